/- The law ObjectApart: no two objects have one row of bytes. Conditions: lengths below 2^47. -/
import Derived.Test.YtcefbhmmijmefaaObjKinds
import Derived.Test.YtcefbhmmijmefaaObj12
namespace Go.Proofs.Ytcefbhmmijmefaa
open Go.RowKit Go.Dol
set_option linter.unusedVariables false

set_option maxHeartbeats 400000 in
/-- Are two rows of bytes the same, by the document? -/
theorem Same_ne (A1 : Option Addr) (l : List UInt8) (c1 : Nat) (A2 : Option Addr) (l2 : List UInt8) (c2 : Nat) (w : World) (B1 B2 : Nat) (h1 : Rd w B1 1 A1 l.length (bc l)) (h2 : Rd w B2 1 A2 l2.length (bc l2)) (he : ¬ l = l2) :
    Calls Try.prog 15 #[.slice A1 l.length c1, .slice A2 l2.length c2] w fun e w' => e = .returned (.bool false) ∧ w = w' := by
  have g1 : (l == l2) = false := beq_eq_false_iff_ne.2 he
  clear he
  have v1 : (convert 22 9 (.slice A1 l.length c1)).run Try.prog w = .ok (.string ⟨l.toArray⟩) w := conv8f h1
  have v2 : (convert 22 9 (.slice A2 l2.length c2)).run Try.prog w = .ok (.string ⟨l2.toArray⟩) w := conv8f h2
  go_enter Try.func15, Try.ntmps15
  go_wp2_with fail
  go_ret
  exact ⟨rfl, rfl⟩
theorem Same_b (A1 : Option Addr) (l : List UInt8) (c1 : Nat) (A2 : Option Addr) (l2 : List UInt8) (c2 : Nat) (w : World) (B1 B2 : Nat) (h1 : Rd w B1 1 A1 l.length (bc l)) (h2 : Rd w B2 1 A2 l2.length (bc l2)) (v : Bool) (hv : Hid (v = true ↔ l = l2)) :
    Calls Try.prog 15 #[.slice A1 l.length c1, .slice A2 l2.length c2] w fun e w' => e = .returned (.bool v) ∧ w = w' := by
  cases v with
  | true => exact Same_calls A1 l c1 A2 l2 c2 w B1 B2 h1 h2 (hv.out.1 rfl)
  | false => exact Same_ne A1 l c1 A2 l2 c2 w B1 B2 h1 h2 fun e => by have := hv.out.2 e; cases this

set_option maxRecDepth 100000 in
set_option maxHeartbeats 4000000 in
theorem apart_wrong_wrong (k : Int) (Ad : Option Addr) (d : List UInt8) (cd : Nat) (Ae : Option Addr) (en : List Ent) (ce : Nat) (tr : ByteArray) (Ap : Option Addr) (pa : List ByteArray) (cp : Nat) (ta na wh : ByteArray) (st : Int) (te : ByteArray) (k2 : Int) (Ad2 : Option Addr) (d2 : List UInt8) (cd2 : Nat) (Ae2 : Option Addr) (en2 : List Ent) (ce2 : Nat) (tr2 : ByteArray) (Ap2 : Option Addr) (pa2 : List ByteArray) (cp2 : Nat) (ta2 na2 wh2 : ByteArray) (st2 : Int) (te2 : ByteArray) (w : World) (hd : Rd w w.heap.size 1 Ad d.length (bc d)) (he : Rd w w.heap.size 3 Ae en.length (ec en)) (hp : Rd w w.heap.size 1 Ap pa.length (pc pa)) (hel : en.length ≤ 140737488355328) (hpl : pa.length ≤ 140737488355328) (hsz : Hid (∀ p ∈ pa, p.size ≤ maxLen)) (hd2 : Rd w w.heap.size 1 Ad2 d2.length (bc d2)) (he2 : Rd w w.heap.size 3 Ae2 en2.length (ec en2)) (hp2 : Rd w w.heap.size 1 Ap2 pa2.length (pc pa2)) (hel2 : en2.length ≤ 140737488355328) (hpl2 : pa2.length ≤ 140737488355328) (hsz2 : Hid (∀ p ∈ pa2, p.size ≤ maxLen)) (HC : Hid (checkB geS ⟨k, d, en, tr, pa, ta, na, wh, st, te⟩ = false)) (HC2 : Hid (checkB geS ⟨k2, d2, en2, tr2, pa2, ta2, na2, wh2, st2, te2⟩ = false)) :
    Calls Try.prog 8 #[.agg #[.int .i64 k, .slice Ad d.length cd, .slice Ae en.length ce, .string tr, .slice Ap pa.length cp, .string ta, .string na, .string wh, .int .i64 st, .string te], .agg #[.int .i64 k2, .slice Ad2 d2.length cd2, .slice Ae2 en2.length ce2, .string tr2, .slice Ap2 pa2.length cp2, .string ta2, .string na2, .string wh2, .int .i64 st2, .string te2]] w fun e w' => e = .returned (.bool true) ∧ Below w.heap.size w w' := by
  have hb0 : Below w.heap.size w ((w.alloc (.cells #[.int .i64 k, .slice Ad d.length cd, .slice Ae en.length ce, .string tr, .slice Ap pa.length cp, .string ta, .string na, .string wh, .int .i64 st, .string te] 43)).alloc (.cells #[.int .i64 k2, .slice Ad2 d2.length cd2, .slice Ae2 en2.length ce2, .string tr2, .slice Ap2 pa2.length cp2, .string ta2, .string na2, .string wh2, .int .i64 st2, .string te2] 43)) := ((Below.refl _ _).alloc (Nat.le_refl _) _).alloc (by simp) _
  have hB := (Blk.new w 43 (ocells k (.slice Ad d.length cd) (.slice Ae en.length ce) tr (.slice Ap pa.length cp) ta na wh st te)).alloc (.cells #[.int .i64 k2, .slice Ad2 d2.length cd2, .slice Ae2 en2.length ce2, .string tr2, .slice Ap2 pa2.length cp2, .string ta2, .string na2, .string wh2, .int .i64 st2, .string te2] 43)
  have hB' := Blk.new (w.alloc (.cells #[.int .i64 k, .slice Ad d.length cd, .slice Ae en.length ce, .string tr, .slice Ap pa.length cp, .string ta, .string na, .string wh, .int .i64 st, .string te] 43)) 43 (ocells k2 (.slice Ad2 d2.length cd2) (.slice Ae2 en2.length ce2) tr2 (.slice Ap2 pa2.length cp2) ta2 na2 wh2 st2 te2)
  have hsz' : (w.alloc (.cells #[.int .i64 k, .slice Ad d.length cd, .slice Ae en.length ce, .string tr, .slice Ap pa.length cp, .string ta, .string na, .string wh, .int .i64 st, .string te] 43)).heap.size = w.heap.size + 1 := by simp
  rw [hsz'] at hB'
  go_enter Try.func8, Try.ntmps8
  go_wp2_with fail
  refine (awake_calls _).mono ?_
  rintro e w1 ⟨rfl, hb1⟩
  have hB1 := hB.below hb1 hB.lt
  have hC1 := hB'.below hb1 hB'.lt
  have hbw := hb0.next hb1
  obtain ⟨c0, c1, c2, c3, c4, c5, c6, c7, c8, c9⟩ := obj_cells hB1
  have hd1 := hd.alive hbw
  have he1 := he.alive hbw
  have hp1 := hp.alive hbw
  have hd12 := hd2.alive hbw
  have he12 := he2.alive hbw
  have hp12 := hp2.alive hbw
  go_wp2_with fail
  refine (Encode_wrong k Ad d cd Ae en ce tr Ap pa cp ta na wh st te w1 hd1 he1 hp1 hel hpl hsz HC).mono ?_
  rintro e w2 ⟨rfl, hb2⟩
  have hB2 := hB1.below hb2 hB1.lt
  have hC2 := hC1.below hb2 hC1.lt
  have hbv := hbw.next hb2
  obtain ⟨b0, b1, b2, b3, b4, b5, b6, b7, b8, b9⟩ := obj_cells hC2
  have hd22 := hd12.alive hb2
  have he22 := he12.alive hb2
  have hp22 := hp12.alive hb2
  go_wp2_with fail
  refine (Encode_wrong k2 Ad2 d2 cd2 Ae2 en2 ce2 tr2 Ap2 pa2 cp2 ta2 na2 wh2 st2 te2 w2 hd22 he22 hp22 hel2 hpl2 hsz2 HC2).mono ?_
  rintro e w3 ⟨rfl, hb3⟩
  go_wp2_with fail
  go_ret
  exact ⟨rfl, hbv.next hb3⟩

set_option maxRecDepth 100000 in
set_option maxHeartbeats 4000000 in
theorem apart_wrong_good (k : Int) (Ad : Option Addr) (d : List UInt8) (cd : Nat) (Ae : Option Addr) (en : List Ent) (ce : Nat) (tr : ByteArray) (Ap : Option Addr) (pa : List ByteArray) (cp : Nat) (ta na wh : ByteArray) (st : Int) (te : ByteArray) (k2 : Int) (Ad2 : Option Addr) (d2 : List UInt8) (cd2 : Nat) (Ae2 : Option Addr) (en2 : List Ent) (ce2 : Nat) (tr2 : ByteArray) (Ap2 : Option Addr) (pa2 : List ByteArray) (cp2 : Nat) (ta2 na2 wh2 : ByteArray) (st2 : Int) (te2 : ByteArray) (w : World) (hd : Rd w w.heap.size 1 Ad d.length (bc d)) (he : Rd w w.heap.size 3 Ae en.length (ec en)) (hp : Rd w w.heap.size 1 Ap pa.length (pc pa)) (hel : en.length ≤ 140737488355328) (hpl : pa.length ≤ 140737488355328) (hsz : Hid (∀ p ∈ pa, p.size ≤ maxLen)) (hd2 : Rd w w.heap.size 1 Ad2 d2.length (bc d2)) (he2 : Rd w w.heap.size 3 Ae2 en2.length (ec en2)) (hp2 : Rd w w.heap.size 1 Ap2 pa2.length (pc pa2)) (hel2 : en2.length ≤ 140737488355328) (hpl2 : pa2.length ≤ 140737488355328) (hsz2 : Hid (∀ p ∈ pa2, p.size ≤ maxLen)) (HC : Hid (checkB geS ⟨k, d, en, tr, pa, ta, na, wh, st, te⟩ = false)) (HC2 : Hid (checkB geS ⟨k2, d2, en2, tr2, pa2, ta2, na2, wh2, st2, te2⟩ = true)) :
    Calls Try.prog 8 #[.agg #[.int .i64 k, .slice Ad d.length cd, .slice Ae en.length ce, .string tr, .slice Ap pa.length cp, .string ta, .string na, .string wh, .int .i64 st, .string te], .agg #[.int .i64 k2, .slice Ad2 d2.length cd2, .slice Ae2 en2.length ce2, .string tr2, .slice Ap2 pa2.length cp2, .string ta2, .string na2, .string wh2, .int .i64 st2, .string te2]] w fun e w' => e = .returned (.bool true) ∧ Below w.heap.size w w' := by
  have hb0 : Below w.heap.size w ((w.alloc (.cells #[.int .i64 k, .slice Ad d.length cd, .slice Ae en.length ce, .string tr, .slice Ap pa.length cp, .string ta, .string na, .string wh, .int .i64 st, .string te] 43)).alloc (.cells #[.int .i64 k2, .slice Ad2 d2.length cd2, .slice Ae2 en2.length ce2, .string tr2, .slice Ap2 pa2.length cp2, .string ta2, .string na2, .string wh2, .int .i64 st2, .string te2] 43)) := ((Below.refl _ _).alloc (Nat.le_refl _) _).alloc (by simp) _
  have hB := (Blk.new w 43 (ocells k (.slice Ad d.length cd) (.slice Ae en.length ce) tr (.slice Ap pa.length cp) ta na wh st te)).alloc (.cells #[.int .i64 k2, .slice Ad2 d2.length cd2, .slice Ae2 en2.length ce2, .string tr2, .slice Ap2 pa2.length cp2, .string ta2, .string na2, .string wh2, .int .i64 st2, .string te2] 43)
  have hB' := Blk.new (w.alloc (.cells #[.int .i64 k, .slice Ad d.length cd, .slice Ae en.length ce, .string tr, .slice Ap pa.length cp, .string ta, .string na, .string wh, .int .i64 st, .string te] 43)) 43 (ocells k2 (.slice Ad2 d2.length cd2) (.slice Ae2 en2.length ce2) tr2 (.slice Ap2 pa2.length cp2) ta2 na2 wh2 st2 te2)
  have hsz' : (w.alloc (.cells #[.int .i64 k, .slice Ad d.length cd, .slice Ae en.length ce, .string tr, .slice Ap pa.length cp, .string ta, .string na, .string wh, .int .i64 st, .string te] 43)).heap.size = w.heap.size + 1 := by simp
  rw [hsz'] at hB'
  go_enter Try.func8, Try.ntmps8
  go_wp2_with fail
  refine (awake_calls _).mono ?_
  rintro e w1 ⟨rfl, hb1⟩
  have hB1 := hB.below hb1 hB.lt
  have hC1 := hB'.below hb1 hB'.lt
  have hbw := hb0.next hb1
  obtain ⟨c0, c1, c2, c3, c4, c5, c6, c7, c8, c9⟩ := obj_cells hB1
  have hd1 := hd.alive hbw
  have he1 := he.alive hbw
  have hp1 := hp.alive hbw
  have hd12 := hd2.alive hbw
  have he12 := he2.alive hbw
  have hp12 := hp2.alive hbw
  go_wp2_with fail
  refine (Encode_wrong k Ad d cd Ae en ce tr Ap pa cp ta na wh st te w1 hd1 he1 hp1 hel hpl hsz HC).mono ?_
  rintro e w2 ⟨rfl, hb2⟩
  have hB2 := hB1.below hb2 hB1.lt
  have hC2 := hC1.below hb2 hC1.lt
  have hbv := hbw.next hb2
  obtain ⟨b0, b1, b2, b3, b4, b5, b6, b7, b8, b9⟩ := obj_cells hC2
  have hd22 := hd12.alive hb2
  have he22 := he12.alive hb2
  have hp22 := hp12.alive hb2
  go_wp2_with fail
  refine (Encode_calls k2 Ad2 d2 cd2 Ae2 en2 ce2 tr2 Ap2 pa2 cp2 ta2 na2 wh2 st2 te2 w2 hd22 he22 hp22 hel2 hpl2 hsz2).mono ?_
  intro e w3 hR
  obtain ⟨l, A, c, el, rfl, ho, hb3⟩ := RetGood.of HC2.out hR
  clear hR
  go_wp2_with fail
  go_ret
  exact ⟨rfl, hbv.next hb3⟩

set_option maxRecDepth 100000 in
set_option maxHeartbeats 4000000 in
theorem apart_good_wrong (k : Int) (Ad : Option Addr) (d : List UInt8) (cd : Nat) (Ae : Option Addr) (en : List Ent) (ce : Nat) (tr : ByteArray) (Ap : Option Addr) (pa : List ByteArray) (cp : Nat) (ta na wh : ByteArray) (st : Int) (te : ByteArray) (k2 : Int) (Ad2 : Option Addr) (d2 : List UInt8) (cd2 : Nat) (Ae2 : Option Addr) (en2 : List Ent) (ce2 : Nat) (tr2 : ByteArray) (Ap2 : Option Addr) (pa2 : List ByteArray) (cp2 : Nat) (ta2 na2 wh2 : ByteArray) (st2 : Int) (te2 : ByteArray) (w : World) (hd : Rd w w.heap.size 1 Ad d.length (bc d)) (he : Rd w w.heap.size 3 Ae en.length (ec en)) (hp : Rd w w.heap.size 1 Ap pa.length (pc pa)) (hel : en.length ≤ 140737488355328) (hpl : pa.length ≤ 140737488355328) (hsz : Hid (∀ p ∈ pa, p.size ≤ maxLen)) (hd2 : Rd w w.heap.size 1 Ad2 d2.length (bc d2)) (he2 : Rd w w.heap.size 3 Ae2 en2.length (ec en2)) (hp2 : Rd w w.heap.size 1 Ap2 pa2.length (pc pa2)) (hel2 : en2.length ≤ 140737488355328) (hpl2 : pa2.length ≤ 140737488355328) (hsz2 : Hid (∀ p ∈ pa2, p.size ≤ maxLen)) (HC : Hid (checkB geS ⟨k, d, en, tr, pa, ta, na, wh, st, te⟩ = true)) (HC2 : Hid (checkB geS ⟨k2, d2, en2, tr2, pa2, ta2, na2, wh2, st2, te2⟩ = false)) :
    Calls Try.prog 8 #[.agg #[.int .i64 k, .slice Ad d.length cd, .slice Ae en.length ce, .string tr, .slice Ap pa.length cp, .string ta, .string na, .string wh, .int .i64 st, .string te], .agg #[.int .i64 k2, .slice Ad2 d2.length cd2, .slice Ae2 en2.length ce2, .string tr2, .slice Ap2 pa2.length cp2, .string ta2, .string na2, .string wh2, .int .i64 st2, .string te2]] w fun e w' => e = .returned (.bool true) ∧ Below w.heap.size w w' := by
  have hb0 : Below w.heap.size w ((w.alloc (.cells #[.int .i64 k, .slice Ad d.length cd, .slice Ae en.length ce, .string tr, .slice Ap pa.length cp, .string ta, .string na, .string wh, .int .i64 st, .string te] 43)).alloc (.cells #[.int .i64 k2, .slice Ad2 d2.length cd2, .slice Ae2 en2.length ce2, .string tr2, .slice Ap2 pa2.length cp2, .string ta2, .string na2, .string wh2, .int .i64 st2, .string te2] 43)) := ((Below.refl _ _).alloc (Nat.le_refl _) _).alloc (by simp) _
  have hB := (Blk.new w 43 (ocells k (.slice Ad d.length cd) (.slice Ae en.length ce) tr (.slice Ap pa.length cp) ta na wh st te)).alloc (.cells #[.int .i64 k2, .slice Ad2 d2.length cd2, .slice Ae2 en2.length ce2, .string tr2, .slice Ap2 pa2.length cp2, .string ta2, .string na2, .string wh2, .int .i64 st2, .string te2] 43)
  have hB' := Blk.new (w.alloc (.cells #[.int .i64 k, .slice Ad d.length cd, .slice Ae en.length ce, .string tr, .slice Ap pa.length cp, .string ta, .string na, .string wh, .int .i64 st, .string te] 43)) 43 (ocells k2 (.slice Ad2 d2.length cd2) (.slice Ae2 en2.length ce2) tr2 (.slice Ap2 pa2.length cp2) ta2 na2 wh2 st2 te2)
  have hsz' : (w.alloc (.cells #[.int .i64 k, .slice Ad d.length cd, .slice Ae en.length ce, .string tr, .slice Ap pa.length cp, .string ta, .string na, .string wh, .int .i64 st, .string te] 43)).heap.size = w.heap.size + 1 := by simp
  rw [hsz'] at hB'
  go_enter Try.func8, Try.ntmps8
  go_wp2_with fail
  refine (awake_calls _).mono ?_
  rintro e w1 ⟨rfl, hb1⟩
  have hB1 := hB.below hb1 hB.lt
  have hC1 := hB'.below hb1 hB'.lt
  have hbw := hb0.next hb1
  obtain ⟨c0, c1, c2, c3, c4, c5, c6, c7, c8, c9⟩ := obj_cells hB1
  have hd1 := hd.alive hbw
  have he1 := he.alive hbw
  have hp1 := hp.alive hbw
  have hd12 := hd2.alive hbw
  have he12 := he2.alive hbw
  have hp12 := hp2.alive hbw
  go_wp2_with fail
  refine (Encode_calls k Ad d cd Ae en ce tr Ap pa cp ta na wh st te w1 hd1 he1 hp1 hel hpl hsz).mono ?_
  intro e w2 hR
  obtain ⟨l, A, c, el, rfl, ho, hb2⟩ := RetGood.of HC.out hR
  clear hR
  have hB2 := hB1.below hb2 hB1.lt
  have hC2 := hC1.below hb2 hC1.lt
  have hbv := hbw.next hb2
  obtain ⟨b0, b1, b2, b3, b4, b5, b6, b7, b8, b9⟩ := obj_cells hC2
  have hd22 := hd12.alive hb2
  have he22 := he12.alive hb2
  have hp22 := hp12.alive hb2
  go_wp2_with fail
  refine (Encode_wrong k2 Ad2 d2 cd2 Ae2 en2 ce2 tr2 Ap2 pa2 cp2 ta2 na2 wh2 st2 te2 w2 hd22 he22 hp22 hel2 hpl2 hsz2 HC2).mono ?_
  rintro e w3 ⟨rfl, hb3⟩
  go_wp2_with fail
  go_ret
  exact ⟨rfl, hbv.next hb3⟩

set_option maxRecDepth 100000 in
set_option maxHeartbeats 4000000 in
theorem apart_good_good (k : Int) (Ad : Option Addr) (d : List UInt8) (cd : Nat) (Ae : Option Addr) (en : List Ent) (ce : Nat) (tr : ByteArray) (Ap : Option Addr) (pa : List ByteArray) (cp : Nat) (ta na wh : ByteArray) (st : Int) (te : ByteArray) (k2 : Int) (Ad2 : Option Addr) (d2 : List UInt8) (cd2 : Nat) (Ae2 : Option Addr) (en2 : List Ent) (ce2 : Nat) (tr2 : ByteArray) (Ap2 : Option Addr) (pa2 : List ByteArray) (cp2 : Nat) (ta2 na2 wh2 : ByteArray) (st2 : Int) (te2 : ByteArray) (w : World) (hd : Rd w w.heap.size 1 Ad d.length (bc d)) (he : Rd w w.heap.size 3 Ae en.length (ec en)) (hp : Rd w w.heap.size 1 Ap pa.length (pc pa)) (hel : en.length ≤ 140737488355328) (hpl : pa.length ≤ 140737488355328) (hsz : Hid (∀ p ∈ pa, p.size ≤ maxLen)) (hd2 : Rd w w.heap.size 1 Ad2 d2.length (bc d2)) (he2 : Rd w w.heap.size 3 Ae2 en2.length (ec en2)) (hp2 : Rd w w.heap.size 1 Ap2 pa2.length (pc pa2)) (hel2 : en2.length ≤ 140737488355328) (hpl2 : pa2.length ≤ 140737488355328) (hsz2 : Hid (∀ p ∈ pa2, p.size ≤ maxLen)) (HC : Hid (checkB geS ⟨k, d, en, tr, pa, ta, na, wh, st, te⟩ = true)) (HC2 : Hid (checkB geS ⟨k2, d2, en2, tr2, pa2, ta2, na2, wh2, st2, te2⟩ = true)) :
    Calls Try.prog 8 #[.agg #[.int .i64 k, .slice Ad d.length cd, .slice Ae en.length ce, .string tr, .slice Ap pa.length cp, .string ta, .string na, .string wh, .int .i64 st, .string te], .agg #[.int .i64 k2, .slice Ad2 d2.length cd2, .slice Ae2 en2.length ce2, .string tr2, .slice Ap2 pa2.length cp2, .string ta2, .string na2, .string wh2, .int .i64 st2, .string te2]] w fun e w' => e = .returned (.bool true) ∧ Below w.heap.size w w' := by
  have hb0 : Below w.heap.size w ((w.alloc (.cells #[.int .i64 k, .slice Ad d.length cd, .slice Ae en.length ce, .string tr, .slice Ap pa.length cp, .string ta, .string na, .string wh, .int .i64 st, .string te] 43)).alloc (.cells #[.int .i64 k2, .slice Ad2 d2.length cd2, .slice Ae2 en2.length ce2, .string tr2, .slice Ap2 pa2.length cp2, .string ta2, .string na2, .string wh2, .int .i64 st2, .string te2] 43)) := ((Below.refl _ _).alloc (Nat.le_refl _) _).alloc (by simp) _
  have hB := (Blk.new w 43 (ocells k (.slice Ad d.length cd) (.slice Ae en.length ce) tr (.slice Ap pa.length cp) ta na wh st te)).alloc (.cells #[.int .i64 k2, .slice Ad2 d2.length cd2, .slice Ae2 en2.length ce2, .string tr2, .slice Ap2 pa2.length cp2, .string ta2, .string na2, .string wh2, .int .i64 st2, .string te2] 43)
  have hB' := Blk.new (w.alloc (.cells #[.int .i64 k, .slice Ad d.length cd, .slice Ae en.length ce, .string tr, .slice Ap pa.length cp, .string ta, .string na, .string wh, .int .i64 st, .string te] 43)) 43 (ocells k2 (.slice Ad2 d2.length cd2) (.slice Ae2 en2.length ce2) tr2 (.slice Ap2 pa2.length cp2) ta2 na2 wh2 st2 te2)
  have hsz' : (w.alloc (.cells #[.int .i64 k, .slice Ad d.length cd, .slice Ae en.length ce, .string tr, .slice Ap pa.length cp, .string ta, .string na, .string wh, .int .i64 st, .string te] 43)).heap.size = w.heap.size + 1 := by simp
  rw [hsz'] at hB'
  go_enter Try.func8, Try.ntmps8
  go_wp2_with fail
  refine (awake_calls _).mono ?_
  rintro e w1 ⟨rfl, hb1⟩
  have hB1 := hB.below hb1 hB.lt
  have hC1 := hB'.below hb1 hB'.lt
  have hbw := hb0.next hb1
  obtain ⟨c0, c1, c2, c3, c4, c5, c6, c7, c8, c9⟩ := obj_cells hB1
  have hd1 := hd.alive hbw
  have he1 := he.alive hbw
  have hp1 := hp.alive hbw
  have hd12 := hd2.alive hbw
  have he12 := he2.alive hbw
  have hp12 := hp2.alive hbw
  go_wp2_with fail
  refine (Encode_calls k Ad d cd Ae en ce tr Ap pa cp ta na wh st te w1 hd1 he1 hp1 hel hpl hsz).mono ?_
  intro e w2 hR
  obtain ⟨l, A, c, el, rfl, ho, hb2⟩ := RetGood.of HC.out hR
  clear hR
  have hB2 := hB1.below hb2 hB1.lt
  have hC2 := hC1.below hb2 hC1.lt
  have hbv := hbw.next hb2
  obtain ⟨b0, b1, b2, b3, b4, b5, b6, b7, b8, b9⟩ := obj_cells hC2
  have hd22 := hd12.alive hb2
  have he22 := he12.alive hb2
  have hp22 := hp12.alive hb2
  go_wp2_with fail
  refine (Encode_calls k2 Ad2 d2 cd2 Ae2 en2 ce2 tr2 Ap2 pa2 cp2 ta2 na2 wh2 st2 te2 w2 hd22 he22 hp22 hel2 hpl2 hsz2).mono ?_
  intro e w3 hR
  obtain ⟨l2, A2, cc2, el2, rfl, ho2, hb3⟩ := RetGood.of HC2.out hR
  clear hR
  have hB3 := hB2.below hb3 hB2.lt
  have hC3 := hC2.below hb3 hC2.lt
  have hbu := hbv.next hb3
  obtain ⟨y0, y1, y2, y3, y4, y5, y6, y7, y8, y9⟩ := obj_cells hB3
  obtain ⟨z0, z1, z2, z3, z4, z5, z6, z7, z8, z9⟩ := obj_cells hC3
  have hr3 := (Rd.of_own ho).alive hb3
  have hq3 := Rd.of_own ho2
  have hd3 := (hd1.alive hb2).alive hb3
  have he3 := (he1.alive hb2).alive hb3
  have hp3 := (hp1.alive hb2).alive hb3
  have hd32 := hd22.alive hb3
  have he32 := he22.alive hb3
  have hp32 := hp22.alive hb3
  have HV : Hid (l = l2 ↔ (k = k2 ∧ d = d2 ∧ en = en2 ∧ tr = tr2 ∧ pa = pa2 ∧ ta = ta2 ∧ na = na2 ∧ wh = wh2 ∧ st = st2 ∧ te = te2)) := ⟨fun e => by
    rw [el.out, el2.out] at e
    have e2 := enc_inj HC.out HC2.out e
    injection e2 with a0 a1 a2 a3 a4 a5 a6 a7 a8 a9
    exact ⟨a0, a1, a2, a3, a4, a5, a6, a7, a8, a9⟩, fun e => by
    obtain ⟨a0, a1, a2, a3, a4, a5, a6, a7, a8, a9⟩ := e
    rw [el.out, el2.out, a0, a1, a2, a3, a4, a5, a6, a7, a8, a9]⟩
  clear el el2 HC HC2 ho ho2
  obtain ⟨v, hv⟩ : ∃ v : Bool, Hid (v = true ↔ l = l2) := ⟨decide (l = l2), decide_eq_true_iff⟩
  have HU : Hid (∀ u : Bool, (u = true ↔ (k = k2 ∧ d = d2 ∧ en = en2 ∧ tr = tr2 ∧ pa = pa2 ∧ ta = ta2 ∧ na = na2 ∧ wh = wh2 ∧ st = st2 ∧ te = te2)) → u = v) := fun u hu => by
    have h1 := hu.trans (HV.out.symm.trans hv.out.symm)
    cases u <;> cases v <;> simp_all
  clear HV
  go_wp2_with fail
  go_region_with ((first
    | (go_at_call 15; (with_reducible refine (Same_b A l c A2 l2 cc2 _ w3.heap.size w3.heap.size (by first | exact hr3 | exact hr3.drew) (by first | exact hq3 | exact hq3.drew) v hv).mono ?_); rintro e w4 ⟨rfl, rfl⟩)
    | (go_at_call 38; refine (refSame_calls k Ad d cd Ae en ce tr Ap pa cp ta na wh st te k2 Ad2 d2 cd2 Ae2 en2 ce2 tr2 Ap2 pa2 cp2 ta2 na2 wh2 st2 te2 _ (by first | exact hd3 | exact hd3.drew) (by first | exact he3 | exact he3.drew) (by first | exact hp3 | exact hp3.drew) hel hpl (by first | exact hd32 | exact hd32.drew) (by first | exact he32 | exact he32.drew) (by first | exact hp32 | exact hp32.drew) hel2 hpl2).mono ?_; rintro e w5 ⟨u, rfl, hu, hb5⟩; obtain rfl := HU.out u hu)))
  all_goals
    have hb6 : Below w3.heap.size w3 w5 := by first | exact hb5 | exact (Below.refl _ _).drew.trans hb5
    go_wp2_with fail
    go_ret
    first
      | exact ⟨by first | rfl | go_simp, hbu.next hb6⟩
      | exact ⟨by first | rfl | go_simp, (hbu.next hb6).drew⟩

theorem objectApart_walk (k : Int) (Ad : Option Addr) (d : List UInt8) (cd : Nat) (Ae : Option Addr) (en : List Ent) (ce : Nat) (tr : ByteArray) (Ap : Option Addr) (pa : List ByteArray) (cp : Nat) (ta na wh : ByteArray) (st : Int) (te : ByteArray) (k2 : Int) (Ad2 : Option Addr) (d2 : List UInt8) (cd2 : Nat) (Ae2 : Option Addr) (en2 : List Ent) (ce2 : Nat) (tr2 : ByteArray) (Ap2 : Option Addr) (pa2 : List ByteArray) (cp2 : Nat) (ta2 na2 wh2 : ByteArray) (st2 : Int) (te2 : ByteArray) (w : World) (hd : Rd w w.heap.size 1 Ad d.length (bc d)) (he : Rd w w.heap.size 3 Ae en.length (ec en)) (hp : Rd w w.heap.size 1 Ap pa.length (pc pa)) (hel : en.length ≤ 140737488355328) (hpl : pa.length ≤ 140737488355328) (hsz : Hid (∀ p ∈ pa, p.size ≤ maxLen)) (wk : (Lit.int .i64 k).wf = true) (ws : (Lit.int .i64 st).wf = true) (hd2 : Rd w w.heap.size 1 Ad2 d2.length (bc d2)) (he2 : Rd w w.heap.size 3 Ae2 en2.length (ec en2)) (hp2 : Rd w w.heap.size 1 Ap2 pa2.length (pc pa2)) (hel2 : en2.length ≤ 140737488355328) (hpl2 : pa2.length ≤ 140737488355328) (hsz2 : Hid (∀ p ∈ pa2, p.size ≤ maxLen)) (wk2 : (Lit.int .i64 k2).wf = true) (ws2 : (Lit.int .i64 st2).wf = true) :
    Calls Try.prog 8 #[.agg #[.int .i64 k, .slice Ad d.length cd, .slice Ae en.length ce, .string tr, .slice Ap pa.length cp, .string ta, .string na, .string wh, .int .i64 st, .string te], .agg #[.int .i64 k2, .slice Ad2 d2.length cd2, .slice Ae2 en2.length ce2, .string tr2, .slice Ap2 pa2.length cp2, .string ta2, .string na2, .string wh2, .int .i64 st2, .string te2]] w fun e w' => e = .returned (.bool true) ∧ Below w.heap.size w w' := by
  cases hc : checkB geS ⟨k, d, en, tr, pa, ta, na, wh, st, te⟩ with
  | false =>
    cases hc2 : checkB geS ⟨k2, d2, en2, tr2, pa2, ta2, na2, wh2, st2, te2⟩ with
    | false => exact apart_wrong_wrong k Ad d cd Ae en ce tr Ap pa cp ta na wh st te k2 Ad2 d2 cd2 Ae2 en2 ce2 tr2 Ap2 pa2 cp2 ta2 na2 wh2 st2 te2 w hd he hp hel hpl hsz hd2 he2 hp2 hel2 hpl2 hsz2 (Lib.hid hc) (Lib.hid hc2)
    | true => exact apart_wrong_good k Ad d cd Ae en ce tr Ap pa cp ta na wh st te k2 Ad2 d2 cd2 Ae2 en2 ce2 tr2 Ap2 pa2 cp2 ta2 na2 wh2 st2 te2 w hd he hp hel hpl hsz hd2 he2 hp2 hel2 hpl2 hsz2 (Lib.hid hc) (Lib.hid hc2)
  | true =>
    cases hc2 : checkB geS ⟨k2, d2, en2, tr2, pa2, ta2, na2, wh2, st2, te2⟩ with
    | false => exact apart_good_wrong k Ad d cd Ae en ce tr Ap pa cp ta na wh st te k2 Ad2 d2 cd2 Ae2 en2 ce2 tr2 Ap2 pa2 cp2 ta2 na2 wh2 st2 te2 w hd he hp hel hpl hsz hd2 he2 hp2 hel2 hpl2 hsz2 (Lib.hid hc) (Lib.hid hc2)
    | true => exact apart_good_good k Ad d cd Ae en ce tr Ap pa cp ta na wh st te k2 Ad2 d2 cd2 Ae2 en2 ce2 tr2 Ap2 pa2 cp2 ta2 na2 wh2 st2 te2 w hd he hp hel hpl hsz hd2 he2 hp2 hel2 hpl2 hsz2 (Lib.hid hc) (Lib.hid hc2)
end Go.Proofs.Ytcefbhmmijmefaa
