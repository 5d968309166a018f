/- The walk of the laws' 'step': an operation on the program's disk and on the document's; the answers are alike. Conditions: disks in good order; bytes that lie below both or in rows of bytes. -/
import Derived.Test.YtogjlfpoedeooaaAlike
import Derived.Test.YtogjlfpoedeooaaOp
import Derived.Test.YtogjlfpoedeooaaDisk7
import Derived.Test.YtogjlfpoedeooaaDisk8
import Derived.Test.YtogjlfpoedeooaaDisk10
import Derived.Test.YtogjlfpoedeooaaDisk11
namespace Go.Dol
open Go.RowKit
/-- What a step leaves. -/
def stepD (q : Int) (a b : ByteArray) (l : List UInt8) (n : Int) (D : Dk) : Dk :=
  if q = 4 then (remD D a).2 else if q = 5 then (renD D a b).2 else if q = 6 then (syncD D a).2 else if q = 7 then D else if q = 8 then (cutD D n).2 else if q = 9 then onD D else (appD D a l).2
theorem OkD.step {D : Dk} (h : OkD D) (q : Int) (a b : ByteArray) (l : List UInt8) {n : Int} (hn : n ≤ 9223372036854775807) : OkD (stepD q a b l n D) := by
  unfold stepD
  split
  · exact h.rem a
  split
  · exact h.ren a b
  split
  · exact h.sync a
  split
  · exact h
  split
  · exact h.cut hn
  split
  · exact h.on
  · exact h.app a l
end Go.Dol
namespace Go.Proofs.Ytogjlfpoedeooaa
open Go.RowKit Go.Dol
set_option linter.unusedVariables false
theorem wf_i64 {x : Int} (h : (Lit.int .i64 x).wf = true) : -9223372036854775808 ≤ x ∧ x ≤ 9223372036854775807 := by
  simp [Lit.wf] at h
  exact h
section
variable {w0 w : World} {g m gr : Nat} {D : Dk}
set_option maxRecDepth 100000 in
set_option maxHeartbeats 16000000 in
theorem step_calls (hA : Dsk w g m D) (hR : Rdk w gr D) (hK : OkD D) (hb : Below w0.heap.size w0 w) (hg : w0.heap.size ≤ g) (hm : w0.heap.size ≤ m) (hgr : w0.heap.size ≤ gr) (x : OpA) (hff : Far w w0.heap.size x.A x.l) (hfc : x.l.length ≤ x.c ∧ x.c ≤ maxLen) (x1 : x.a.size ≤ maxLen) (x2 : x.b.size ≤ maxLen) :
    Calls Try.prog 39 #[.pointer (some ⟨g, 0, none⟩), .pointer (some ⟨gr, 0, none⟩), .agg #[.int .i64 x.k, .string x.a, .string x.b, .slice x.A x.l.length x.c, .int .i64 x.n]] w fun e w' => e = .returned (.bool true) ∧ Dsk w' g m (stepD (bits .and .i64 x.k 15) x.a x.b x.l x.n D) ∧ Rdk w' gr (stepD (bits .and .i64 x.k 15) x.a x.b x.l x.n D) ∧ Below w0.heap.size w0 w' := by
  obtain ⟨xk, xa, xb, xl, xA, xc, xn⟩ := x
  simp only at hff hfc x1 x2 ⊢
  obtain ⟨q, hq⟩ : ∃ q, bits .and .i64 xk 15 = q := ⟨_, rfl⟩
  rw [hq]
  have hX := Blk.new w 56 [.int .i64 xk, .string xa, .string xb, .slice xA xl.length xc, .int .i64 xn]
  have hbX := (Below.refl w.heap.size w).alloc (Nat.le_refl _) (.cells #[.int .i64 xk, .string xa, .string xb, .slice xA xl.length xc, .int .i64 xn] 56)
  obtain ⟨W0, hW0⟩ : ∃ W, W = w.alloc (.cells #[.int .i64 xk, .string xa, .string xb, .slice xA xl.length xc, .int .i64 xn] 56) := ⟨_, rfl⟩
  have hX0 : Blk W0 w.heap.size 56 [.int .i64 xk, .string xa, .string xb, .slice xA xl.length xc, .int .i64 xn] := by rw [hW0]; exact hX
  have hbX0 : Below w.heap.size w W0 := by rw [hW0]; exact hbX
  have hA0 := (hA.below hbX0).drew
  have hR0 := (hR.below hbX0).drew
  have hf0 := (hff.below hbX0).drew
  have hb0 := (hb.next hbX0).drew
  have hX0d := hX0.drew
  have hgl := hA.lt
  have hrl := hR.lt
  have hxg : w.heap.size ≠ g := by omega
  have hxm : w.heap.size ≠ m := by omega
  have hxr : some w.heap.size ≠ some gr := fun e => by injection e with e; omega
  have hS : ∀ W : World, Blk W w.heap.size 56 [.int .i64 xk, .string xa, .string xb, .slice xA xl.length xc, .int .i64 xn] → W.cell? ⟨w.heap.size, 1, none⟩ = some (.string xa) ∧ W.cell? ⟨w.heap.size, 2, none⟩ = some (.string xb) ∧ W.cell? ⟨w.heap.size, 3, none⟩ = some (.slice xA xl.length xc) ∧ W.cell? ⟨w.heap.size, 4, none⟩ = some (.int .i64 xn) := fun W h => ⟨by rw [h.cell]; rfl, by rw [h.cell]; rfl, by rw [h.cell]; rfl, by rw [h.cell]; rfl⟩
  have s0 := hS _ hX0d
  clear hX hbX hA hR hff hb
  by_cases h4 : q = 4
  · rw [h4] at hq
    obtain ⟨ec, D', hr⟩ : ∃ ec E, remD D xa = (ec, E) := ⟨_, _, rfl⟩
    have HF : Hid (stepD q xa xb xl xn D = D') := by unfold Hid stepD; rw [if_pos h4, hr]
    clear h4
    have HOa := Remove_calls hA0 hK xa x1
    rw [hr] at HOa
    have HOa2 := Lib.hid HOa
    have cR : ∀ W, Rdk W gr D → Calls Try.prog 62 #[.pointer (some ⟨gr, 0, none⟩), .string xa] W (RetR W gr (ec, D')) := by rw [← hr]; exact fun W h => refRemove_calls h hK xa x1 (by have := hK.lenD; omega)
    clear HOa hr
    go_enter Try.func39, Try.ntmps39
    go_wp2_with fail
    rw [← hW0]
    clear hW0
    go_region_held3 (fun w' => w'.cell? ⟨w.heap.size, 1, none⟩ = some (.string xa) ∧ w'.cell? ⟨w.heap.size, 2, none⟩ = some (.string xb) ∧ w'.cell? ⟨w.heap.size, 3, none⟩ = some (.slice xA xl.length xc) ∧ w'.cell? ⟨w.heap.size, 4, none⟩ = some (.int .i64 xn)) (first | go_keep | assumption)
      (first
        | (go_at_call 15; (with_reducible refine HOa2.out.mono ?_); rintro e w1 ⟨rfl, hA1, ht1⟩; have hR1 := hR0.tw hA0 ht1; have hX1 := Blk.tw hX0d ht1 hxg hxm; have s1 := hS _ hX1)
        | (go_at_call 62; (with_reducible refine (cR _ hR1).mono ?_); rintro e w2 ⟨rfl, hR2, hg2⟩; have hA2 := hA1.ref hR1 hg2; have hX2 := hX1.grown hg2 hxr; have s2 := hS _ hX2))
    have hb1 := Tw.new hb0 ht1 hg hm
    go_wp2_with fail
    go_ret
    rw [HF.out]
    exact ⟨rfl, hA2, hR2, hb1.grown hg2 hb1.size (fun j e => by injection e with e; omega)⟩
  by_cases h5 : q = 5
  · rw [h5] at hq
    obtain ⟨ec, D', hr⟩ : ∃ ec E, renD D xa xb = (ec, E) := ⟨_, _, rfl⟩
    have HF : Hid (stepD q xa xb xl xn D = D') := by unfold Hid stepD; rw [if_neg (by rw [h5]; decide), if_pos h5, hr]
    clear h5 h4
    have HOa := Rename_calls hA0 hK xa xb x1 x2
    rw [hr] at HOa
    have HOa2 := Lib.hid HOa
    have cR : ∀ W, Rdk W gr D → Calls Try.prog 63 #[.pointer (some ⟨gr, 0, none⟩), .string xa, .string xb] W (RetR W gr (ec, D')) := by rw [← hr]; exact fun W h => refRename_calls h hK xa xb x1 x2
    clear HOa hr
    go_enter Try.func39, Try.ntmps39
    go_wp2_with fail
    rw [← hW0]
    clear hW0
    go_region_held3 (fun w' => w'.cell? ⟨w.heap.size, 1, none⟩ = some (.string xa) ∧ w'.cell? ⟨w.heap.size, 2, none⟩ = some (.string xb) ∧ w'.cell? ⟨w.heap.size, 3, none⟩ = some (.slice xA xl.length xc) ∧ w'.cell? ⟨w.heap.size, 4, none⟩ = some (.int .i64 xn)) (first | go_keep | assumption)
      (first
        | (go_at_call 33; (with_reducible refine HOa2.out.mono ?_); rintro e w1 ⟨rfl, hA1, ht1⟩; have hR1 := hR0.tw hA0 ht1; have hX1 := Blk.tw hX0d ht1 hxg hxm; have s1 := hS _ hX1)
        | (go_at_call 63; (with_reducible refine (cR _ hR1).mono ?_); rintro e w2 ⟨rfl, hR2, hg2⟩; have hA2 := hA1.ref hR1 hg2; have hX2 := hX1.grown hg2 hxr; have s2 := hS _ hX2))
    have hb1 := Tw.new hb0 ht1 hg hm
    go_wp2_with fail
    go_ret
    rw [HF.out]
    exact ⟨rfl, hA2, hR2, hb1.grown hg2 hb1.size (fun j e => by injection e with e; omega)⟩
  by_cases h6 : q = 6
  · rw [h6] at hq
    obtain ⟨ec, D', hr⟩ : ∃ ec E, syncD D xa = (ec, E) := ⟨_, _, rfl⟩
    have HF : Hid (stepD q xa xb xl xn D = D') := by unfold Hid stepD; rw [if_neg (by rw [h6]; decide), if_neg (by rw [h6]; decide), if_pos h6, hr]
    clear h6 h4 h5
    have HOa := Sync_calls hA0 hK xa x1
    rw [hr] at HOa
    have HOa2 := Lib.hid HOa
    have cR : ∀ W, Rdk W gr D → Calls Try.prog 64 #[.pointer (some ⟨gr, 0, none⟩), .string xa] W (RetR W gr (ec, D')) := by rw [← hr]; exact fun W h => refSync_calls h hK xa x1 (by have := hK.lenD; omega)
    clear HOa hr
    go_enter Try.func39, Try.ntmps39
    go_wp2_with fail
    rw [← hW0]
    clear hW0
    go_region_held3 (fun w' => w'.cell? ⟨w.heap.size, 1, none⟩ = some (.string xa) ∧ w'.cell? ⟨w.heap.size, 2, none⟩ = some (.string xb) ∧ w'.cell? ⟨w.heap.size, 3, none⟩ = some (.slice xA xl.length xc) ∧ w'.cell? ⟨w.heap.size, 4, none⟩ = some (.int .i64 xn)) (first | go_keep | assumption)
      (first
        | (go_at_call 34; (with_reducible refine HOa2.out.mono ?_); rintro e w1 ⟨rfl, hA1, ht1⟩; have hR1 := hR0.tw hA0 ht1; have hX1 := Blk.tw hX0d ht1 hxg hxm; have s1 := hS _ hX1)
        | (go_at_call 64; (with_reducible refine (cR _ hR1).mono ?_); rintro e w2 ⟨rfl, hR2, hg2⟩; have hA2 := hA1.ref hR1 hg2; have hX2 := hX1.grown hg2 hxr; have s2 := hS _ hX2))
    have hb1 := Tw.new hb0 ht1 hg hm
    go_wp2_with fail
    go_ret
    rw [HF.out]
    exact ⟨rfl, hA2, hR2, hb1.grown hg2 hb1.size (fun j e => by injection e with e; omega)⟩
  by_cases h7 : q = 7
  · rw [h7] at hq
    have HF : Hid (stepD q xa xb xl xn D = D) := by unfold Hid stepD; rw [if_neg (by rw [h7]; decide), if_neg (by rw [h7]; decide), if_neg (by rw [h7]; decide), if_pos h7]
    clear h7 h4 h5 h6
    have hA0b : Dsk W0 g m D := hA0.below ⟨rfl, rfl, rfl, Nat.le_refl _, fun _ _ => rfl⟩
    have hR0b : Rdk W0 gr D := hR0.below ⟨rfl, rfl, rfl, Nat.le_refl _, fun _ _ => rfl⟩
    have hb0b : Below w0.heap.size w0 W0 := ⟨hb0.os, hb0.tape, hb0.output, hb0.size, hb0.block⟩
    have s0b := hS _ hX0
    obtain ⟨rd, ec, hrd⟩ : ∃ rd ec, readD D xa = (rd, ec) := ⟨_, _, rfl⟩
    have HOa := Read_calls hA0b hK.ord xa (fun b hb => hK.small hb)
    rw [hrd] at HOa
    have HOa2 := Lib.hid HOa
    obtain ⟨is, his⟩ : ∃ is, is = (lookF D.l xa).isSome := ⟨_, rfl⟩
    have HRD := Lib.hid hrd
    clear HOa hrd
    go_enter Try.func39, Try.ntmps39
    go_wp2_with fail
    rw [← hW0]
    clear hW0 s0
    refine HOa2.out.mono ?_
    rintro e w1 ⟨l1, A1, c1, e1, rfl, o1, b1⟩
    have hR1 := hR0b.below b1
    have hA1 := hA0b.below b1
    have s1 := hS _ (hX0.below b1 hX0.lt)
    have HOr := refRead_calls hR1 xa x1 (by have := hK.lenD; omega) (fun b hb => hK.small hb)
    rw [HRD.out] at HOr
    have HOr2 := Lib.hid HOr
    clear HOr s0b
    go_wp2_with fail
    refine HOr2.out.mono ?_
    rintro e w2 ⟨l2, A2, c2, e2, rfl, o2, b2⟩
    obtain rfl : l2 = l1 := e2.out.trans e1.out.symm
    have hR2 := hR1.below b2
    have hA2 := hA1.below b2
    have hb2 := (hb0b.next b1).next b2
    have hX2 := (hX0.below b1 hX0.lt).below b2 (Nat.lt_of_lt_of_le hX0.lt b1.size)
    have s2 : ∀ j, (w2.drewN j).cell? ⟨w.heap.size, 1, none⟩ = some (.string xa) := fun j => (hS _ hX2).1
    have v1 : ∀ j, (convert 23 9 (.slice A1 l2.length c1)).run Try.prog (w2.drewN j) = .ok (.string ⟨l2.toArray⟩) (w2.drewN j) := fun j => conv8f ((Rd.of_own (own_belowW o1 b2)).drewN _)
    have v2 : ∀ j, (convert 23 9 (.slice A2 l2.length c2)).run Try.prog (w2.drewN j) = .ok (.string ⟨l2.toArray⟩) (w2.drewN j) := fun j => conv8f ((Rd.of_own o2).drewN _)
    have cH : ∀ j, Calls Try.prog 20 #[.pointer (some ⟨g, 0, none⟩), .string xa] (w2.drewN j) fun e w' => e = .returned (.bool is) ∧ w' = (w2.drewN j) := by rw [his]; exact fun j => Has_calls (hA2.drewN j) hK.ord xa x1
    have cR : ∀ j, Calls Try.prog 57 #[.pointer (some ⟨gr, 0, none⟩), .string xa] (w2.drewN j) fun e w' => e = .returned (.bool is) ∧ ∃ nq, w' = (w2.drewN j).drewN nq := by
      rw [his]
      intro j
      refine (refHas_calls (hR2.drewN j) xa (by have := hK.lenD; omega)).mono ?_
      rintro e w' ⟨nq, rfl, rfl⟩
      exact ⟨rfl, nq, rfl⟩
    clear his s1
    go_wp2_with fail
    go_quiet ((first
      | (go_at_call 20; exact Calls.quiet_of_same (cH _))
      | (go_at_call 57; exact Calls.quiet_of (cR _))))
    go_wp2_with fail
    go_ret
    rw [HF.out]
    exact ⟨rfl, hA2.drewN _, hR2.drewN _, hb2.drewN' _⟩
  by_cases h8 : q = 8
  · rw [h8] at hq
    obtain ⟨ec, D', hr⟩ : ∃ ec E, cutD D xn = (ec, E) := ⟨_, _, rfl⟩
    have HF : Hid (stepD q xa xb xl xn D = D') := by unfold Hid stepD; rw [if_neg (by rw [h8]; decide), if_neg (by rw [h8]; decide), if_neg (by rw [h8]; decide), if_neg (by rw [h8]; decide), if_pos h8, hr]
    clear h8 h4 h5 h6 h7
    have HOa := Cut_calls hA0 xn
    rw [hr] at HOa
    have HOa2 := Lib.hid HOa
    have cR : ∀ W, Rdk W gr D → Calls Try.prog 66 #[.pointer (some ⟨gr, 0, none⟩), .int .i64 xn] W (RetR W gr (ec, D')) := by rw [← hr]; exact fun W h => refCut_calls h xn
    clear HOa hr
    go_enter Try.func39, Try.ntmps39
    go_wp2_with fail
    rw [← hW0]
    clear hW0
    go_region_held3 (fun w' => w'.cell? ⟨w.heap.size, 1, none⟩ = some (.string xa) ∧ w'.cell? ⟨w.heap.size, 2, none⟩ = some (.string xb) ∧ w'.cell? ⟨w.heap.size, 3, none⟩ = some (.slice xA xl.length xc) ∧ w'.cell? ⟨w.heap.size, 4, none⟩ = some (.int .i64 xn)) (first | go_keep | assumption)
      (first
        | (go_at_call 32; (with_reducible refine HOa2.out.mono ?_); rintro e w1 ⟨rfl, hA1, ht1⟩; have hR1 := hR0.tw hA0 ht1; have hX1 := Blk.tw hX0d ht1 hxg hxm; have s1 := hS _ hX1)
        | (go_at_call 66; (with_reducible refine (cR _ hR1).mono ?_); rintro e w2 ⟨rfl, hR2, hg2⟩; have hA2 := hA1.ref hR1 hg2; have hX2 := hX1.grown hg2 hxr; have s2 := hS _ hX2))
    have hb1 := Tw.new hb0 ht1 hg hm
    go_wp2_with fail
    go_ret
    rw [HF.out]
    exact ⟨rfl, hA2, hR2, hb1.grown hg2 hb1.size (fun j e => by injection e with e; omega)⟩
  by_cases h9 : q = 9
  · rw [h9] at hq
    have HF : Hid (stepD q xa xb xl xn D = onD D) := by unfold Hid stepD; rw [if_neg (by rw [h9]; decide), if_neg (by rw [h9]; decide), if_neg (by rw [h9]; decide), if_neg (by rw [h9]; decide), if_neg (by rw [h9]; decide), if_pos h9]
    clear h9 h4 h5 h6 h7 h8
    have HOa := Lib.hid (On_calls (hA0.below (w' := W0) ⟨rfl, rfl, rfl, Nat.le_refl _, fun _ _ => rfl⟩))
    go_enter Try.func39, Try.ntmps39
    go_wp2_with fail
    rw [← hW0]
    refine HOa.out.mono ?_
    rintro e w1 ⟨rfl, hA1, ht1⟩
    have hR0b : Rdk W0 gr D := hR0.below ⟨rfl, rfl, rfl, Nat.le_refl _, fun _ _ => rfl⟩
    have hA0b : Dsk W0 g m D := hA0.below ⟨rfl, rfl, rfl, Nat.le_refl _, fun _ _ => rfl⟩
    have hb0b : Below w0.heap.size w0 W0 := ⟨hb0.os, hb0.tape, hb0.output, hb0.size, hb0.block⟩
    have hR1 := hR0b.tw hA0b ht1
    have HOr := Lib.hid (refOn_calls hR1)
    go_wp2_with fail
    refine HOr.out.mono ?_
    rintro e w2 ⟨rfl, hR2, hg2⟩
    have hA2 := hA1.ref hR1 hg2
    have hb1 := Tw.new hb0b ht1 hg hm
    go_wp2_with fail
    go_ret
    rw [HF.out]
    exact ⟨rfl, hA2, hR2, hb1.grown hg2 hb1.size (fun j e => by injection e with e; omega)⟩
  obtain ⟨ec, D', hr⟩ : ∃ ec E, appD D xa xl = (ec, E) := ⟨_, _, rfl⟩
  have HF : Hid (stepD q xa xb xl xn D = D') := by unfold Hid stepD; rw [if_neg h4, if_neg h5, if_neg h6, if_neg h7, if_neg h8, if_neg h9, hr]
  have n4 : (q == 4) = false := beq_eq_false_iff_ne.2 h4
  have n5 : (q == 5) = false := beq_eq_false_iff_ne.2 h5
  have n6 : (q == 6) = false := beq_eq_false_iff_ne.2 h6
  have n7 : (q == 7) = false := beq_eq_false_iff_ne.2 h7
  have n8 : (q == 8) = false := beq_eq_false_iff_ne.2 h8
  have n9 : (q == 9) = false := beq_eq_false_iff_ne.2 h9
  clear h4 h5 h6 h7 h8 h9
  have HOa := Append_calls hA0 hK xa x1 w0.heap.size xA xl xc hf0 hg
  rw [hr] at HOa
  have HOa2 := Lib.hid HOa
  have cR : ∀ W, Rdk W gr D → Far W w0.heap.size xA xl → Calls Try.prog 68 #[.pointer (some ⟨gr, 0, none⟩), .string xa, .slice xA xl.length xc] W (RetR W gr (ec, D')) := by rw [← hr]; exact fun W h hf => refAppend_calls h hK xa x1 w0.heap.size xA xl xc hf hgr
  clear HOa hr
  go_enter Try.func39, Try.ntmps39
  go_wp2_with fail
  rw [← hW0]
  clear hW0
  go_region_held3 (fun w' => w'.cell? ⟨w.heap.size, 1, none⟩ = some (.string xa) ∧ w'.cell? ⟨w.heap.size, 2, none⟩ = some (.string xb) ∧ w'.cell? ⟨w.heap.size, 3, none⟩ = some (.slice xA xl.length xc) ∧ w'.cell? ⟨w.heap.size, 4, none⟩ = some (.int .i64 xn)) (first | go_keep | assumption)
    (first
      | (go_at_call 22; (with_reducible refine HOa2.out.mono ?_); rintro e w1 ⟨rfl, hA1, ht1⟩; have hR1 := hR0.tw hA0 ht1; have hX1 := Blk.tw hX0d ht1 hxg hxm; have s1 := hS _ hX1; have hf1 := hf0.tw ht1 (hA0.others hg hm).1 (hA0.others hg hm).2)
      | (go_at_call 68; (with_reducible refine (cR _ hR1 hf1).mono ?_); rintro e w2 ⟨rfl, hR2, hg2⟩; have hA2 := hA1.ref hR1 hg2; have hX2 := hX1.grown hg2 hxr; have s2 := hS _ hX2))
  have hb1 := Tw.new hb0 ht1 hg hm
  go_wp2_with fail
  go_ret
  rw [HF.out]
  exact ⟨rfl, hA2, hR2, hb1.grown hg2 hb1.size (fun j e => by injection e with e; omega)⟩
end
end Go.Proofs.Ytogjlfpoedeooaa
