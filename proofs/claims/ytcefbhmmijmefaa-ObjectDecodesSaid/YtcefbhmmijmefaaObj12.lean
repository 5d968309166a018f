/- The walks of the layer 'object', its twelfth part: are two objects the same, by the document? Conditions: lengths below 2^47. -/
import Derived.Test.YtcefbhmmijmefaaObj8
import Derived.BigQuiet
import Derived.Deep.DeepCutAuto
namespace Go.Proofs.Ytcefbhmmijmefaa
open Go.RowKit Go.Dol
set_option linter.unusedVariables false

theorem SameTexts_t (A : Option Addr) (a : List ByteArray) (c : Nat) (A2 : Option Addr) (b : List ByteArray) (c2 : Nat) (w : World) (B : Nat) (hr : Rd w B 1 A a.length (pc a)) (hr2 : Rd w B 1 A2 b.length (pc b)) (ha : a.length ≤ 140737488355328) (hb : b.length ≤ 140737488355328) (hv : Hid (a = b)) :
    Calls Try.prog 47 #[.slice A a.length c, .slice A2 b.length c2] w fun e w' => e = .returned (.bool true) ∧ ∃ n, w' = w.drewN n :=
  (SameTexts_calls A a c A2 b c2 w B B hr hr2 ha hb).mono fun e w' ⟨u, n, h1, h2, h3⟩ => ⟨by rw [h1, show u = true from h2.2 hv.out], n, h3⟩
theorem SameTexts_f (A : Option Addr) (a : List ByteArray) (c : Nat) (A2 : Option Addr) (b : List ByteArray) (c2 : Nat) (w : World) (B : Nat) (hr : Rd w B 1 A a.length (pc a)) (hr2 : Rd w B 1 A2 b.length (pc b)) (ha : a.length ≤ 140737488355328) (hb : b.length ≤ 140737488355328) (hv : Hid (¬ a = b)) :
    Calls Try.prog 47 #[.slice A a.length c, .slice A2 b.length c2] w fun e w' => e = .returned (.bool false) ∧ ∃ n, w' = w.drewN n :=
  (SameTexts_calls A a c A2 b c2 w B B hr hr2 ha hb).mono fun e w' ⟨u, n, h1, h2, h3⟩ => ⟨by rw [h1, show u = false from Bool.eq_false_iff.2 fun e => hv.out (h2.1 e)], n, h3⟩

set_option maxRecDepth 100000 in
set_option maxHeartbeats 4000000 in
theorem refsame_0 (k : Int) (Ad : Option Addr) (d : List UInt8) (cd : Nat) (Ae : Option Addr) (en : List Ent) (ce : Nat) (tr : ByteArray) (Ap : Option Addr) (pa : List ByteArray) (cp : Nat) (ta na wh : ByteArray) (st : Int) (te : ByteArray) (k2 : Int) (Ad2 : Option Addr) (d2 : List UInt8) (cd2 : Nat) (Ae2 : Option Addr) (en2 : List Ent) (ce2 : Nat) (tr2 : ByteArray) (Ap2 : Option Addr) (pa2 : List ByteArray) (cp2 : Nat) (ta2 na2 wh2 : ByteArray) (st2 : Int) (te2 : ByteArray) (w : World) (hd : Rd w w.heap.size 1 Ad d.length (bc d)) (he : Rd w w.heap.size 3 Ae en.length (ec en)) (hp : Rd w w.heap.size 1 Ap pa.length (pc pa)) (hel : en.length ≤ 140737488355328) (hpl : pa.length ≤ 140737488355328) (hd2 : Rd w w.heap.size 1 Ad2 d2.length (bc d2)) (he2 : Rd w w.heap.size 3 Ae2 en2.length (ec en2)) (hp2 : Rd w w.heap.size 1 Ap2 pa2.length (pc pa2)) (hel2 : en2.length ≤ 140737488355328) (hpl2 : pa2.length ≤ 140737488355328)  (h0 : ¬ (k = k2)) :
    Calls Try.prog 38 #[.agg #[.int .i64 k, .slice Ad d.length cd, .slice Ae en.length ce, .string tr, .slice Ap pa.length cp, .string ta, .string na, .string wh, .int .i64 st, .string te], .agg #[.int .i64 k2, .slice Ad2 d2.length cd2, .slice Ae2 en2.length ce2, .string tr2, .slice Ap2 pa2.length cp2, .string ta2, .string na2, .string wh2, .int .i64 st2, .string te2]] w fun e w' => e = .returned (.bool false) ∧ Below w.heap.size w w' := by
  have hb : Below w.heap.size w ((w.alloc (.cells #[.int .i64 k, .slice Ad d.length cd, .slice Ae en.length ce, .string tr, .slice Ap pa.length cp, .string ta, .string na, .string wh, .int .i64 st, .string te] 43)).alloc (.cells #[.int .i64 k2, .slice Ad2 d2.length cd2, .slice Ae2 en2.length ce2, .string tr2, .slice Ap2 pa2.length cp2, .string ta2, .string na2, .string wh2, .int .i64 st2, .string te2] 43)) := ((Below.refl _ _).alloc (Nat.le_refl _) _).alloc (by simp) _
  have hB1 := (Blk.new w 43 [.int .i64 k, .slice Ad d.length cd, .slice Ae en.length ce, .string tr, .slice Ap pa.length cp, .string ta, .string na, .string wh, .int .i64 st, .string te]).alloc (.cells #[.int .i64 k2, .slice Ad2 d2.length cd2, .slice Ae2 en2.length ce2, .string tr2, .slice Ap2 pa2.length cp2, .string ta2, .string na2, .string wh2, .int .i64 st2, .string te2] 43)
  have hB2 := Blk.new (w.alloc (.cells #[.int .i64 k, .slice Ad d.length cd, .slice Ae en.length ce, .string tr, .slice Ap pa.length cp, .string ta, .string na, .string wh, .int .i64 st, .string te] 43)) 43 [.int .i64 k2, .slice Ad2 d2.length cd2, .slice Ae2 en2.length ce2, .string tr2, .slice Ap2 pa2.length cp2, .string ta2, .string na2, .string wh2, .int .i64 st2, .string te2]
  have hsz : (w.alloc (.cells #[.int .i64 k, .slice Ad d.length cd, .slice Ae en.length ce, .string tr, .slice Ap pa.length cp, .string ta, .string na, .string wh, .int .i64 st, .string te] 43)).heap.size = w.heap.size + 1 := by simp
  rw [hsz] at hB2
  have rd := hd.below hb
  have rd2 := hd2.below hb
  have rp := hp.below hb
  have rp2 := hp2.below hb
  have g0 : (k == k2) = false := beq_eq_false_iff_ne.2 h0
  have q0 : (k != k2) = true := by rw [bne, g0]; rfl
  clear hd hd2 he he2 hp hp2 hsz h0
  go_enter Try.func38, Try.ntmps38
  go_upto_region 1 with fail
  obtain ⟨w0, hw0⟩ : ∃ w0, w0 = ((w.alloc (.cells #[.int .i64 k, .slice Ad d.length cd, .slice Ae en.length ce, .string tr, .slice Ap pa.length cp, .string ta, .string na, .string wh, .int .i64 st, .string te] 43)).alloc (.cells #[.int .i64 k2, .slice Ad2 d2.length cd2, .slice Ae2 en2.length ce2, .string tr2, .slice Ap2 pa2.length cp2, .string ta2, .string na2, .string wh2, .int .i64 st2, .string te2] 43)) := ⟨_, rfl⟩
  change Blk ((w.alloc (.cells #[.int .i64 k, .slice Ad d.length cd, .slice Ae en.length ce, .string tr, .slice Ap pa.length cp, .string ta, .string na, .string wh, .int .i64 st, .string te] 43)).alloc (.cells #[.int .i64 k2, .slice Ad2 d2.length cd2, .slice Ae2 en2.length ce2, .string tr2, .slice Ap2 pa2.length cp2, .string ta2, .string na2, .string wh2, .int .i64 st2, .string te2] 43)) _ _ _ at hB1
  change Blk ((w.alloc (.cells #[.int .i64 k, .slice Ad d.length cd, .slice Ae en.length ce, .string tr, .slice Ap pa.length cp, .string ta, .string na, .string wh, .int .i64 st, .string te] 43)).alloc (.cells #[.int .i64 k2, .slice Ad2 d2.length cd2, .slice Ae2 en2.length ce2, .string tr2, .slice Ap2 pa2.length cp2, .string ta2, .string na2, .string wh2, .int .i64 st2, .string te2] 43)) _ _ _ at hB2
  rw [← hw0] at hB1 hB2 hb rd rd2 rp rp2 ⊢
  clear hw0
  obtain ⟨c0, c1, c2, c3, c4, c5, c6, c7, c8, c9⟩ := obj_cells hB1
  obtain ⟨e0, e1, e2, e3, e4, e5, e6, e7, e8, e9⟩ := obj_cells hB2
  have v1 : (convert 22 9 (.slice Ad d.length cd)).run Try.prog w0 = .ok (.string ⟨d.toArray⟩) w0 := conv8f rd
  have v2 : (convert 22 9 (.slice Ad2 d2.length cd2)).run Try.prog w0 = .ok (.string ⟨d2.toArray⟩) w0 := conv8f rd2
  simp only [List.append]
  go_wp2_with (fail)
  go_ret
  exact ⟨rfl, by first | exact hb | exact hb.drewN' _⟩

set_option maxRecDepth 100000 in
set_option maxHeartbeats 4000000 in
theorem refsame_1 (k : Int) (Ad : Option Addr) (d : List UInt8) (cd : Nat) (Ae : Option Addr) (en : List Ent) (ce : Nat) (tr : ByteArray) (Ap : Option Addr) (pa : List ByteArray) (cp : Nat) (ta na wh : ByteArray) (st : Int) (te : ByteArray) (k2 : Int) (Ad2 : Option Addr) (d2 : List UInt8) (cd2 : Nat) (Ae2 : Option Addr) (en2 : List Ent) (ce2 : Nat) (tr2 : ByteArray) (Ap2 : Option Addr) (pa2 : List ByteArray) (cp2 : Nat) (ta2 na2 wh2 : ByteArray) (st2 : Int) (te2 : ByteArray) (w : World) (hd : Rd w w.heap.size 1 Ad d.length (bc d)) (he : Rd w w.heap.size 3 Ae en.length (ec en)) (hp : Rd w w.heap.size 1 Ap pa.length (pc pa)) (hel : en.length ≤ 140737488355328) (hpl : pa.length ≤ 140737488355328) (hd2 : Rd w w.heap.size 1 Ad2 d2.length (bc d2)) (he2 : Rd w w.heap.size 3 Ae2 en2.length (ec en2)) (hp2 : Rd w w.heap.size 1 Ap2 pa2.length (pc pa2)) (hel2 : en2.length ≤ 140737488355328) (hpl2 : pa2.length ≤ 140737488355328) (h0 : k = k2) (h1 : ¬ (d = d2)) :
    Calls Try.prog 38 #[.agg #[.int .i64 k, .slice Ad d.length cd, .slice Ae en.length ce, .string tr, .slice Ap pa.length cp, .string ta, .string na, .string wh, .int .i64 st, .string te], .agg #[.int .i64 k2, .slice Ad2 d2.length cd2, .slice Ae2 en2.length ce2, .string tr2, .slice Ap2 pa2.length cp2, .string ta2, .string na2, .string wh2, .int .i64 st2, .string te2]] w fun e w' => e = .returned (.bool false) ∧ Below w.heap.size w w' := by
  have hb : Below w.heap.size w ((w.alloc (.cells #[.int .i64 k, .slice Ad d.length cd, .slice Ae en.length ce, .string tr, .slice Ap pa.length cp, .string ta, .string na, .string wh, .int .i64 st, .string te] 43)).alloc (.cells #[.int .i64 k2, .slice Ad2 d2.length cd2, .slice Ae2 en2.length ce2, .string tr2, .slice Ap2 pa2.length cp2, .string ta2, .string na2, .string wh2, .int .i64 st2, .string te2] 43)) := ((Below.refl _ _).alloc (Nat.le_refl _) _).alloc (by simp) _
  have hB1 := (Blk.new w 43 [.int .i64 k, .slice Ad d.length cd, .slice Ae en.length ce, .string tr, .slice Ap pa.length cp, .string ta, .string na, .string wh, .int .i64 st, .string te]).alloc (.cells #[.int .i64 k2, .slice Ad2 d2.length cd2, .slice Ae2 en2.length ce2, .string tr2, .slice Ap2 pa2.length cp2, .string ta2, .string na2, .string wh2, .int .i64 st2, .string te2] 43)
  have hB2 := Blk.new (w.alloc (.cells #[.int .i64 k, .slice Ad d.length cd, .slice Ae en.length ce, .string tr, .slice Ap pa.length cp, .string ta, .string na, .string wh, .int .i64 st, .string te] 43)) 43 [.int .i64 k2, .slice Ad2 d2.length cd2, .slice Ae2 en2.length ce2, .string tr2, .slice Ap2 pa2.length cp2, .string ta2, .string na2, .string wh2, .int .i64 st2, .string te2]
  have hsz : (w.alloc (.cells #[.int .i64 k, .slice Ad d.length cd, .slice Ae en.length ce, .string tr, .slice Ap pa.length cp, .string ta, .string na, .string wh, .int .i64 st, .string te] 43)).heap.size = w.heap.size + 1 := by simp
  rw [hsz] at hB2
  have rd := hd.below hb
  have rd2 := hd2.below hb
  have rp := hp.below hb
  have rp2 := hp2.below hb
  have g0 : (k == k2) = true := beq_iff_eq.2 h0
  have q0 : (k != k2) = false := by rw [bne, g0]; rfl
  have g1 : (d == d2) = false := beq_eq_false_iff_ne.2 h1
  clear hd hd2 he he2 hp hp2 hsz h0 h1
  go_enter Try.func38, Try.ntmps38
  go_upto_region 1 with fail
  obtain ⟨w0, hw0⟩ : ∃ w0, w0 = ((w.alloc (.cells #[.int .i64 k, .slice Ad d.length cd, .slice Ae en.length ce, .string tr, .slice Ap pa.length cp, .string ta, .string na, .string wh, .int .i64 st, .string te] 43)).alloc (.cells #[.int .i64 k2, .slice Ad2 d2.length cd2, .slice Ae2 en2.length ce2, .string tr2, .slice Ap2 pa2.length cp2, .string ta2, .string na2, .string wh2, .int .i64 st2, .string te2] 43)) := ⟨_, rfl⟩
  change Blk ((w.alloc (.cells #[.int .i64 k, .slice Ad d.length cd, .slice Ae en.length ce, .string tr, .slice Ap pa.length cp, .string ta, .string na, .string wh, .int .i64 st, .string te] 43)).alloc (.cells #[.int .i64 k2, .slice Ad2 d2.length cd2, .slice Ae2 en2.length ce2, .string tr2, .slice Ap2 pa2.length cp2, .string ta2, .string na2, .string wh2, .int .i64 st2, .string te2] 43)) _ _ _ at hB1
  change Blk ((w.alloc (.cells #[.int .i64 k, .slice Ad d.length cd, .slice Ae en.length ce, .string tr, .slice Ap pa.length cp, .string ta, .string na, .string wh, .int .i64 st, .string te] 43)).alloc (.cells #[.int .i64 k2, .slice Ad2 d2.length cd2, .slice Ae2 en2.length ce2, .string tr2, .slice Ap2 pa2.length cp2, .string ta2, .string na2, .string wh2, .int .i64 st2, .string te2] 43)) _ _ _ at hB2
  rw [← hw0] at hB1 hB2 hb rd rd2 rp rp2 ⊢
  clear hw0
  obtain ⟨c0, c1, c2, c3, c4, c5, c6, c7, c8, c9⟩ := obj_cells hB1
  obtain ⟨e0, e1, e2, e3, e4, e5, e6, e7, e8, e9⟩ := obj_cells hB2
  have v1 : (convert 22 9 (.slice Ad d.length cd)).run Try.prog w0 = .ok (.string ⟨d.toArray⟩) w0 := conv8f rd
  have v2 : (convert 22 9 (.slice Ad2 d2.length cd2)).run Try.prog w0 = .ok (.string ⟨d2.toArray⟩) w0 := conv8f rd2
  simp only [List.append]
  go_wp2_with (fail)
  go_ret
  exact ⟨rfl, by first | exact hb | exact hb.drewN' _⟩

set_option maxRecDepth 100000 in
set_option maxHeartbeats 4000000 in
theorem refsame_2 (k : Int) (Ad : Option Addr) (d : List UInt8) (cd : Nat) (Ae : Option Addr) (en : List Ent) (ce : Nat) (tr : ByteArray) (Ap : Option Addr) (pa : List ByteArray) (cp : Nat) (ta na wh : ByteArray) (st : Int) (te : ByteArray) (k2 : Int) (Ad2 : Option Addr) (d2 : List UInt8) (cd2 : Nat) (Ae2 : Option Addr) (en2 : List Ent) (ce2 : Nat) (tr2 : ByteArray) (Ap2 : Option Addr) (pa2 : List ByteArray) (cp2 : Nat) (ta2 na2 wh2 : ByteArray) (st2 : Int) (te2 : ByteArray) (w : World) (hd : Rd w w.heap.size 1 Ad d.length (bc d)) (he : Rd w w.heap.size 3 Ae en.length (ec en)) (hp : Rd w w.heap.size 1 Ap pa.length (pc pa)) (hel : en.length ≤ 140737488355328) (hpl : pa.length ≤ 140737488355328) (hd2 : Rd w w.heap.size 1 Ad2 d2.length (bc d2)) (he2 : Rd w w.heap.size 3 Ae2 en2.length (ec en2)) (hp2 : Rd w w.heap.size 1 Ap2 pa2.length (pc pa2)) (hel2 : en2.length ≤ 140737488355328) (hpl2 : pa2.length ≤ 140737488355328) (h0 : k = k2) (h1 : d = d2) (h2 : ¬ (en.length = en2.length)) :
    Calls Try.prog 38 #[.agg #[.int .i64 k, .slice Ad d.length cd, .slice Ae en.length ce, .string tr, .slice Ap pa.length cp, .string ta, .string na, .string wh, .int .i64 st, .string te], .agg #[.int .i64 k2, .slice Ad2 d2.length cd2, .slice Ae2 en2.length ce2, .string tr2, .slice Ap2 pa2.length cp2, .string ta2, .string na2, .string wh2, .int .i64 st2, .string te2]] w fun e w' => e = .returned (.bool false) ∧ Below w.heap.size w w' := by
  have hb : Below w.heap.size w ((w.alloc (.cells #[.int .i64 k, .slice Ad d.length cd, .slice Ae en.length ce, .string tr, .slice Ap pa.length cp, .string ta, .string na, .string wh, .int .i64 st, .string te] 43)).alloc (.cells #[.int .i64 k2, .slice Ad2 d2.length cd2, .slice Ae2 en2.length ce2, .string tr2, .slice Ap2 pa2.length cp2, .string ta2, .string na2, .string wh2, .int .i64 st2, .string te2] 43)) := ((Below.refl _ _).alloc (Nat.le_refl _) _).alloc (by simp) _
  have hB1 := (Blk.new w 43 [.int .i64 k, .slice Ad d.length cd, .slice Ae en.length ce, .string tr, .slice Ap pa.length cp, .string ta, .string na, .string wh, .int .i64 st, .string te]).alloc (.cells #[.int .i64 k2, .slice Ad2 d2.length cd2, .slice Ae2 en2.length ce2, .string tr2, .slice Ap2 pa2.length cp2, .string ta2, .string na2, .string wh2, .int .i64 st2, .string te2] 43)
  have hB2 := Blk.new (w.alloc (.cells #[.int .i64 k, .slice Ad d.length cd, .slice Ae en.length ce, .string tr, .slice Ap pa.length cp, .string ta, .string na, .string wh, .int .i64 st, .string te] 43)) 43 [.int .i64 k2, .slice Ad2 d2.length cd2, .slice Ae2 en2.length ce2, .string tr2, .slice Ap2 pa2.length cp2, .string ta2, .string na2, .string wh2, .int .i64 st2, .string te2]
  have hsz : (w.alloc (.cells #[.int .i64 k, .slice Ad d.length cd, .slice Ae en.length ce, .string tr, .slice Ap pa.length cp, .string ta, .string na, .string wh, .int .i64 st, .string te] 43)).heap.size = w.heap.size + 1 := by simp
  rw [hsz] at hB2
  have rd := hd.below hb
  have rd2 := hd2.below hb
  have rp := hp.below hb
  have rp2 := hp2.below hb
  have g0 : (k == k2) = true := beq_iff_eq.2 h0
  have q0 : (k != k2) = false := by rw [bne, g0]; rfl
  have g1 : (d == d2) = true := beq_iff_eq.2 h1
  have g2 : ((en.length : Int) == (en2.length : Int)) = false := beq_eq_false_iff_ne.2 (by omega)
  have q2 : ((en.length : Int) != (en2.length : Int)) = true := by rw [bne, g2]; rfl
  clear hd hd2 he he2 hp hp2 hsz h0 h1 h2
  go_enter Try.func38, Try.ntmps38
  go_upto_region 1 with fail
  obtain ⟨w0, hw0⟩ : ∃ w0, w0 = ((w.alloc (.cells #[.int .i64 k, .slice Ad d.length cd, .slice Ae en.length ce, .string tr, .slice Ap pa.length cp, .string ta, .string na, .string wh, .int .i64 st, .string te] 43)).alloc (.cells #[.int .i64 k2, .slice Ad2 d2.length cd2, .slice Ae2 en2.length ce2, .string tr2, .slice Ap2 pa2.length cp2, .string ta2, .string na2, .string wh2, .int .i64 st2, .string te2] 43)) := ⟨_, rfl⟩
  change Blk ((w.alloc (.cells #[.int .i64 k, .slice Ad d.length cd, .slice Ae en.length ce, .string tr, .slice Ap pa.length cp, .string ta, .string na, .string wh, .int .i64 st, .string te] 43)).alloc (.cells #[.int .i64 k2, .slice Ad2 d2.length cd2, .slice Ae2 en2.length ce2, .string tr2, .slice Ap2 pa2.length cp2, .string ta2, .string na2, .string wh2, .int .i64 st2, .string te2] 43)) _ _ _ at hB1
  change Blk ((w.alloc (.cells #[.int .i64 k, .slice Ad d.length cd, .slice Ae en.length ce, .string tr, .slice Ap pa.length cp, .string ta, .string na, .string wh, .int .i64 st, .string te] 43)).alloc (.cells #[.int .i64 k2, .slice Ad2 d2.length cd2, .slice Ae2 en2.length ce2, .string tr2, .slice Ap2 pa2.length cp2, .string ta2, .string na2, .string wh2, .int .i64 st2, .string te2] 43)) _ _ _ at hB2
  rw [← hw0] at hB1 hB2 hb rd rd2 rp rp2 ⊢
  clear hw0
  obtain ⟨c0, c1, c2, c3, c4, c5, c6, c7, c8, c9⟩ := obj_cells hB1
  obtain ⟨e0, e1, e2, e3, e4, e5, e6, e7, e8, e9⟩ := obj_cells hB2
  have v1 : (convert 22 9 (.slice Ad d.length cd)).run Try.prog w0 = .ok (.string ⟨d.toArray⟩) w0 := conv8f rd
  have v2 : (convert 22 9 (.slice Ad2 d2.length cd2)).run Try.prog w0 = .ok (.string ⟨d2.toArray⟩) w0 := conv8f rd2
  simp only [List.append]
  go_wp2_with (fail)
  go_ret
  exact ⟨rfl, by first | exact hb | exact hb.drewN' _⟩

set_option maxRecDepth 100000 in
set_option maxHeartbeats 4000000 in
theorem refsame_3 (k : Int) (Ad : Option Addr) (d : List UInt8) (cd : Nat) (Ae : Option Addr) (en : List Ent) (ce : Nat) (tr : ByteArray) (Ap : Option Addr) (pa : List ByteArray) (cp : Nat) (ta na wh : ByteArray) (st : Int) (te : ByteArray) (k2 : Int) (Ad2 : Option Addr) (d2 : List UInt8) (cd2 : Nat) (Ae2 : Option Addr) (en2 : List Ent) (ce2 : Nat) (tr2 : ByteArray) (Ap2 : Option Addr) (pa2 : List ByteArray) (cp2 : Nat) (ta2 na2 wh2 : ByteArray) (st2 : Int) (te2 : ByteArray) (w : World) (hd : Rd w w.heap.size 1 Ad d.length (bc d)) (he : Rd w w.heap.size 3 Ae en.length (ec en)) (hp : Rd w w.heap.size 1 Ap pa.length (pc pa)) (hel : en.length ≤ 140737488355328) (hpl : pa.length ≤ 140737488355328) (hd2 : Rd w w.heap.size 1 Ad2 d2.length (bc d2)) (he2 : Rd w w.heap.size 3 Ae2 en2.length (ec en2)) (hp2 : Rd w w.heap.size 1 Ap2 pa2.length (pc pa2)) (hel2 : en2.length ≤ 140737488355328) (hpl2 : pa2.length ≤ 140737488355328) (h0 : k = k2) (h1 : d = d2) (h2 : en.length = en2.length) (h3 : ¬ (tr = tr2)) :
    Calls Try.prog 38 #[.agg #[.int .i64 k, .slice Ad d.length cd, .slice Ae en.length ce, .string tr, .slice Ap pa.length cp, .string ta, .string na, .string wh, .int .i64 st, .string te], .agg #[.int .i64 k2, .slice Ad2 d2.length cd2, .slice Ae2 en2.length ce2, .string tr2, .slice Ap2 pa2.length cp2, .string ta2, .string na2, .string wh2, .int .i64 st2, .string te2]] w fun e w' => e = .returned (.bool false) ∧ Below w.heap.size w w' := by
  have hb : Below w.heap.size w ((w.alloc (.cells #[.int .i64 k, .slice Ad d.length cd, .slice Ae en.length ce, .string tr, .slice Ap pa.length cp, .string ta, .string na, .string wh, .int .i64 st, .string te] 43)).alloc (.cells #[.int .i64 k2, .slice Ad2 d2.length cd2, .slice Ae2 en2.length ce2, .string tr2, .slice Ap2 pa2.length cp2, .string ta2, .string na2, .string wh2, .int .i64 st2, .string te2] 43)) := ((Below.refl _ _).alloc (Nat.le_refl _) _).alloc (by simp) _
  have hB1 := (Blk.new w 43 [.int .i64 k, .slice Ad d.length cd, .slice Ae en.length ce, .string tr, .slice Ap pa.length cp, .string ta, .string na, .string wh, .int .i64 st, .string te]).alloc (.cells #[.int .i64 k2, .slice Ad2 d2.length cd2, .slice Ae2 en2.length ce2, .string tr2, .slice Ap2 pa2.length cp2, .string ta2, .string na2, .string wh2, .int .i64 st2, .string te2] 43)
  have hB2 := Blk.new (w.alloc (.cells #[.int .i64 k, .slice Ad d.length cd, .slice Ae en.length ce, .string tr, .slice Ap pa.length cp, .string ta, .string na, .string wh, .int .i64 st, .string te] 43)) 43 [.int .i64 k2, .slice Ad2 d2.length cd2, .slice Ae2 en2.length ce2, .string tr2, .slice Ap2 pa2.length cp2, .string ta2, .string na2, .string wh2, .int .i64 st2, .string te2]
  have hsz : (w.alloc (.cells #[.int .i64 k, .slice Ad d.length cd, .slice Ae en.length ce, .string tr, .slice Ap pa.length cp, .string ta, .string na, .string wh, .int .i64 st, .string te] 43)).heap.size = w.heap.size + 1 := by simp
  rw [hsz] at hB2
  have rd := hd.below hb
  have rd2 := hd2.below hb
  have rp := hp.below hb
  have rp2 := hp2.below hb
  have g0 : (k == k2) = true := beq_iff_eq.2 h0
  have q0 : (k != k2) = false := by rw [bne, g0]; rfl
  have g1 : (d == d2) = true := beq_iff_eq.2 h1
  have g2 : ((en.length : Int) == (en2.length : Int)) = true := beq_iff_eq.2 (by omega)
  have q2 : ((en.length : Int) != (en2.length : Int)) = false := by rw [bne, g2]; rfl
  have g3 : (tr.toList == tr2.toList) = false := str_ne_b h3
  clear hd hd2 he he2 hp hp2 hsz h0 h1 h2 h3
  go_enter Try.func38, Try.ntmps38
  go_upto_region 1 with fail
  obtain ⟨w0, hw0⟩ : ∃ w0, w0 = ((w.alloc (.cells #[.int .i64 k, .slice Ad d.length cd, .slice Ae en.length ce, .string tr, .slice Ap pa.length cp, .string ta, .string na, .string wh, .int .i64 st, .string te] 43)).alloc (.cells #[.int .i64 k2, .slice Ad2 d2.length cd2, .slice Ae2 en2.length ce2, .string tr2, .slice Ap2 pa2.length cp2, .string ta2, .string na2, .string wh2, .int .i64 st2, .string te2] 43)) := ⟨_, rfl⟩
  change Blk ((w.alloc (.cells #[.int .i64 k, .slice Ad d.length cd, .slice Ae en.length ce, .string tr, .slice Ap pa.length cp, .string ta, .string na, .string wh, .int .i64 st, .string te] 43)).alloc (.cells #[.int .i64 k2, .slice Ad2 d2.length cd2, .slice Ae2 en2.length ce2, .string tr2, .slice Ap2 pa2.length cp2, .string ta2, .string na2, .string wh2, .int .i64 st2, .string te2] 43)) _ _ _ at hB1
  change Blk ((w.alloc (.cells #[.int .i64 k, .slice Ad d.length cd, .slice Ae en.length ce, .string tr, .slice Ap pa.length cp, .string ta, .string na, .string wh, .int .i64 st, .string te] 43)).alloc (.cells #[.int .i64 k2, .slice Ad2 d2.length cd2, .slice Ae2 en2.length ce2, .string tr2, .slice Ap2 pa2.length cp2, .string ta2, .string na2, .string wh2, .int .i64 st2, .string te2] 43)) _ _ _ at hB2
  rw [← hw0] at hB1 hB2 hb rd rd2 rp rp2 ⊢
  clear hw0
  obtain ⟨c0, c1, c2, c3, c4, c5, c6, c7, c8, c9⟩ := obj_cells hB1
  obtain ⟨e0, e1, e2, e3, e4, e5, e6, e7, e8, e9⟩ := obj_cells hB2
  have v1 : (convert 22 9 (.slice Ad d.length cd)).run Try.prog w0 = .ok (.string ⟨d.toArray⟩) w0 := conv8f rd
  have v2 : (convert 22 9 (.slice Ad2 d2.length cd2)).run Try.prog w0 = .ok (.string ⟨d2.toArray⟩) w0 := conv8f rd2
  simp only [List.append]
  go_wp2_with (fail)
  go_ret
  exact ⟨rfl, by first | exact hb | exact hb.drewN' _⟩

set_option maxRecDepth 100000 in
set_option maxHeartbeats 4000000 in
theorem refsame_4 (k : Int) (Ad : Option Addr) (d : List UInt8) (cd : Nat) (Ae : Option Addr) (en : List Ent) (ce : Nat) (tr : ByteArray) (Ap : Option Addr) (pa : List ByteArray) (cp : Nat) (ta na wh : ByteArray) (st : Int) (te : ByteArray) (k2 : Int) (Ad2 : Option Addr) (d2 : List UInt8) (cd2 : Nat) (Ae2 : Option Addr) (en2 : List Ent) (ce2 : Nat) (tr2 : ByteArray) (Ap2 : Option Addr) (pa2 : List ByteArray) (cp2 : Nat) (ta2 na2 wh2 : ByteArray) (st2 : Int) (te2 : ByteArray) (w : World) (hd : Rd w w.heap.size 1 Ad d.length (bc d)) (he : Rd w w.heap.size 3 Ae en.length (ec en)) (hp : Rd w w.heap.size 1 Ap pa.length (pc pa)) (hel : en.length ≤ 140737488355328) (hpl : pa.length ≤ 140737488355328) (hd2 : Rd w w.heap.size 1 Ad2 d2.length (bc d2)) (he2 : Rd w w.heap.size 3 Ae2 en2.length (ec en2)) (hp2 : Rd w w.heap.size 1 Ap2 pa2.length (pc pa2)) (hel2 : en2.length ≤ 140737488355328) (hpl2 : pa2.length ≤ 140737488355328) (h0 : k = k2) (h1 : d = d2) (h2 : en.length = en2.length) (h3 : tr = tr2) (h4 : ¬ (pa = pa2)) :
    Calls Try.prog 38 #[.agg #[.int .i64 k, .slice Ad d.length cd, .slice Ae en.length ce, .string tr, .slice Ap pa.length cp, .string ta, .string na, .string wh, .int .i64 st, .string te], .agg #[.int .i64 k2, .slice Ad2 d2.length cd2, .slice Ae2 en2.length ce2, .string tr2, .slice Ap2 pa2.length cp2, .string ta2, .string na2, .string wh2, .int .i64 st2, .string te2]] w fun e w' => e = .returned (.bool false) ∧ Below w.heap.size w w' := by
  have hb : Below w.heap.size w ((w.alloc (.cells #[.int .i64 k, .slice Ad d.length cd, .slice Ae en.length ce, .string tr, .slice Ap pa.length cp, .string ta, .string na, .string wh, .int .i64 st, .string te] 43)).alloc (.cells #[.int .i64 k2, .slice Ad2 d2.length cd2, .slice Ae2 en2.length ce2, .string tr2, .slice Ap2 pa2.length cp2, .string ta2, .string na2, .string wh2, .int .i64 st2, .string te2] 43)) := ((Below.refl _ _).alloc (Nat.le_refl _) _).alloc (by simp) _
  have hB1 := (Blk.new w 43 [.int .i64 k, .slice Ad d.length cd, .slice Ae en.length ce, .string tr, .slice Ap pa.length cp, .string ta, .string na, .string wh, .int .i64 st, .string te]).alloc (.cells #[.int .i64 k2, .slice Ad2 d2.length cd2, .slice Ae2 en2.length ce2, .string tr2, .slice Ap2 pa2.length cp2, .string ta2, .string na2, .string wh2, .int .i64 st2, .string te2] 43)
  have hB2 := Blk.new (w.alloc (.cells #[.int .i64 k, .slice Ad d.length cd, .slice Ae en.length ce, .string tr, .slice Ap pa.length cp, .string ta, .string na, .string wh, .int .i64 st, .string te] 43)) 43 [.int .i64 k2, .slice Ad2 d2.length cd2, .slice Ae2 en2.length ce2, .string tr2, .slice Ap2 pa2.length cp2, .string ta2, .string na2, .string wh2, .int .i64 st2, .string te2]
  have hsz : (w.alloc (.cells #[.int .i64 k, .slice Ad d.length cd, .slice Ae en.length ce, .string tr, .slice Ap pa.length cp, .string ta, .string na, .string wh, .int .i64 st, .string te] 43)).heap.size = w.heap.size + 1 := by simp
  rw [hsz] at hB2
  have rd := hd.below hb
  have rd2 := hd2.below hb
  have rp := hp.below hb
  have rp2 := hp2.below hb
  have g0 : (k == k2) = true := beq_iff_eq.2 h0
  have q0 : (k != k2) = false := by rw [bne, g0]; rfl
  have g1 : (d == d2) = true := beq_iff_eq.2 h1
  have g2 : ((en.length : Int) == (en2.length : Int)) = true := beq_iff_eq.2 (by omega)
  have q2 : ((en.length : Int) != (en2.length : Int)) = false := by rw [bne, g2]; rfl
  have g3 : (tr.toList == tr2.toList) = true := str_eq_b h3
  have HS : Hid (¬ (pa = pa2)) := h4
  clear hd hd2 he he2 hp hp2 hsz h0 h1 h2 h3 h4
  go_enter Try.func38, Try.ntmps38
  go_upto_region 1 with fail
  obtain ⟨w0, hw0⟩ : ∃ w0, w0 = ((w.alloc (.cells #[.int .i64 k, .slice Ad d.length cd, .slice Ae en.length ce, .string tr, .slice Ap pa.length cp, .string ta, .string na, .string wh, .int .i64 st, .string te] 43)).alloc (.cells #[.int .i64 k2, .slice Ad2 d2.length cd2, .slice Ae2 en2.length ce2, .string tr2, .slice Ap2 pa2.length cp2, .string ta2, .string na2, .string wh2, .int .i64 st2, .string te2] 43)) := ⟨_, rfl⟩
  change Blk ((w.alloc (.cells #[.int .i64 k, .slice Ad d.length cd, .slice Ae en.length ce, .string tr, .slice Ap pa.length cp, .string ta, .string na, .string wh, .int .i64 st, .string te] 43)).alloc (.cells #[.int .i64 k2, .slice Ad2 d2.length cd2, .slice Ae2 en2.length ce2, .string tr2, .slice Ap2 pa2.length cp2, .string ta2, .string na2, .string wh2, .int .i64 st2, .string te2] 43)) _ _ _ at hB1
  change Blk ((w.alloc (.cells #[.int .i64 k, .slice Ad d.length cd, .slice Ae en.length ce, .string tr, .slice Ap pa.length cp, .string ta, .string na, .string wh, .int .i64 st, .string te] 43)).alloc (.cells #[.int .i64 k2, .slice Ad2 d2.length cd2, .slice Ae2 en2.length ce2, .string tr2, .slice Ap2 pa2.length cp2, .string ta2, .string na2, .string wh2, .int .i64 st2, .string te2] 43)) _ _ _ at hB2
  rw [← hw0] at hB1 hB2 hb rd rd2 rp rp2 ⊢
  clear hw0
  obtain ⟨c0, c1, c2, c3, c4, c5, c6, c7, c8, c9⟩ := obj_cells hB1
  obtain ⟨e0, e1, e2, e3, e4, e5, e6, e7, e8, e9⟩ := obj_cells hB2
  have v1 : (convert 22 9 (.slice Ad d.length cd)).run Try.prog w0 = .ok (.string ⟨d.toArray⟩) w0 := conv8f rd
  have v2 : (convert 22 9 (.slice Ad2 d2.length cd2)).run Try.prog w0 = .ok (.string ⟨d2.toArray⟩) w0 := conv8f rd2
  simp only [List.append]
  go_wp2_with (first | (go_at_call 47; (with_reducible refine (SameTexts_f Ap pa cp Ap2 pa2 cp2 _ w.heap.size rp rp2 hpl hpl2 HS).mono ?_); rintro e w4 ⟨rfl, n4, rfl⟩))
  go_ret
  exact ⟨rfl, by first | exact hb | exact hb.drewN' _⟩

set_option maxRecDepth 100000 in
set_option maxHeartbeats 4000000 in
theorem refsame_5 (k : Int) (Ad : Option Addr) (d : List UInt8) (cd : Nat) (Ae : Option Addr) (en : List Ent) (ce : Nat) (tr : ByteArray) (Ap : Option Addr) (pa : List ByteArray) (cp : Nat) (ta na wh : ByteArray) (st : Int) (te : ByteArray) (k2 : Int) (Ad2 : Option Addr) (d2 : List UInt8) (cd2 : Nat) (Ae2 : Option Addr) (en2 : List Ent) (ce2 : Nat) (tr2 : ByteArray) (Ap2 : Option Addr) (pa2 : List ByteArray) (cp2 : Nat) (ta2 na2 wh2 : ByteArray) (st2 : Int) (te2 : ByteArray) (w : World) (hd : Rd w w.heap.size 1 Ad d.length (bc d)) (he : Rd w w.heap.size 3 Ae en.length (ec en)) (hp : Rd w w.heap.size 1 Ap pa.length (pc pa)) (hel : en.length ≤ 140737488355328) (hpl : pa.length ≤ 140737488355328) (hd2 : Rd w w.heap.size 1 Ad2 d2.length (bc d2)) (he2 : Rd w w.heap.size 3 Ae2 en2.length (ec en2)) (hp2 : Rd w w.heap.size 1 Ap2 pa2.length (pc pa2)) (hel2 : en2.length ≤ 140737488355328) (hpl2 : pa2.length ≤ 140737488355328) (h0 : k = k2) (h1 : d = d2) (h2 : en.length = en2.length) (h3 : tr = tr2) (h4 : pa = pa2) (h5 : ¬ (ta = ta2)) :
    Calls Try.prog 38 #[.agg #[.int .i64 k, .slice Ad d.length cd, .slice Ae en.length ce, .string tr, .slice Ap pa.length cp, .string ta, .string na, .string wh, .int .i64 st, .string te], .agg #[.int .i64 k2, .slice Ad2 d2.length cd2, .slice Ae2 en2.length ce2, .string tr2, .slice Ap2 pa2.length cp2, .string ta2, .string na2, .string wh2, .int .i64 st2, .string te2]] w fun e w' => e = .returned (.bool false) ∧ Below w.heap.size w w' := by
  have hb : Below w.heap.size w ((w.alloc (.cells #[.int .i64 k, .slice Ad d.length cd, .slice Ae en.length ce, .string tr, .slice Ap pa.length cp, .string ta, .string na, .string wh, .int .i64 st, .string te] 43)).alloc (.cells #[.int .i64 k2, .slice Ad2 d2.length cd2, .slice Ae2 en2.length ce2, .string tr2, .slice Ap2 pa2.length cp2, .string ta2, .string na2, .string wh2, .int .i64 st2, .string te2] 43)) := ((Below.refl _ _).alloc (Nat.le_refl _) _).alloc (by simp) _
  have hB1 := (Blk.new w 43 [.int .i64 k, .slice Ad d.length cd, .slice Ae en.length ce, .string tr, .slice Ap pa.length cp, .string ta, .string na, .string wh, .int .i64 st, .string te]).alloc (.cells #[.int .i64 k2, .slice Ad2 d2.length cd2, .slice Ae2 en2.length ce2, .string tr2, .slice Ap2 pa2.length cp2, .string ta2, .string na2, .string wh2, .int .i64 st2, .string te2] 43)
  have hB2 := Blk.new (w.alloc (.cells #[.int .i64 k, .slice Ad d.length cd, .slice Ae en.length ce, .string tr, .slice Ap pa.length cp, .string ta, .string na, .string wh, .int .i64 st, .string te] 43)) 43 [.int .i64 k2, .slice Ad2 d2.length cd2, .slice Ae2 en2.length ce2, .string tr2, .slice Ap2 pa2.length cp2, .string ta2, .string na2, .string wh2, .int .i64 st2, .string te2]
  have hsz : (w.alloc (.cells #[.int .i64 k, .slice Ad d.length cd, .slice Ae en.length ce, .string tr, .slice Ap pa.length cp, .string ta, .string na, .string wh, .int .i64 st, .string te] 43)).heap.size = w.heap.size + 1 := by simp
  rw [hsz] at hB2
  have rd := hd.below hb
  have rd2 := hd2.below hb
  have rp := hp.below hb
  have rp2 := hp2.below hb
  have g0 : (k == k2) = true := beq_iff_eq.2 h0
  have q0 : (k != k2) = false := by rw [bne, g0]; rfl
  have g1 : (d == d2) = true := beq_iff_eq.2 h1
  have g2 : ((en.length : Int) == (en2.length : Int)) = true := beq_iff_eq.2 (by omega)
  have q2 : ((en.length : Int) != (en2.length : Int)) = false := by rw [bne, g2]; rfl
  have g3 : (tr.toList == tr2.toList) = true := str_eq_b h3
  have HS : Hid (pa = pa2) := h4
  have g5 : (ta.toList == ta2.toList) = false := str_ne_b h5
  clear hd hd2 he he2 hp hp2 hsz h0 h1 h2 h3 h4 h5
  go_enter Try.func38, Try.ntmps38
  go_upto_region 1 with fail
  obtain ⟨w0, hw0⟩ : ∃ w0, w0 = ((w.alloc (.cells #[.int .i64 k, .slice Ad d.length cd, .slice Ae en.length ce, .string tr, .slice Ap pa.length cp, .string ta, .string na, .string wh, .int .i64 st, .string te] 43)).alloc (.cells #[.int .i64 k2, .slice Ad2 d2.length cd2, .slice Ae2 en2.length ce2, .string tr2, .slice Ap2 pa2.length cp2, .string ta2, .string na2, .string wh2, .int .i64 st2, .string te2] 43)) := ⟨_, rfl⟩
  change Blk ((w.alloc (.cells #[.int .i64 k, .slice Ad d.length cd, .slice Ae en.length ce, .string tr, .slice Ap pa.length cp, .string ta, .string na, .string wh, .int .i64 st, .string te] 43)).alloc (.cells #[.int .i64 k2, .slice Ad2 d2.length cd2, .slice Ae2 en2.length ce2, .string tr2, .slice Ap2 pa2.length cp2, .string ta2, .string na2, .string wh2, .int .i64 st2, .string te2] 43)) _ _ _ at hB1
  change Blk ((w.alloc (.cells #[.int .i64 k, .slice Ad d.length cd, .slice Ae en.length ce, .string tr, .slice Ap pa.length cp, .string ta, .string na, .string wh, .int .i64 st, .string te] 43)).alloc (.cells #[.int .i64 k2, .slice Ad2 d2.length cd2, .slice Ae2 en2.length ce2, .string tr2, .slice Ap2 pa2.length cp2, .string ta2, .string na2, .string wh2, .int .i64 st2, .string te2] 43)) _ _ _ at hB2
  rw [← hw0] at hB1 hB2 hb rd rd2 rp rp2 ⊢
  clear hw0
  obtain ⟨c0, c1, c2, c3, c4, c5, c6, c7, c8, c9⟩ := obj_cells hB1
  obtain ⟨e0, e1, e2, e3, e4, e5, e6, e7, e8, e9⟩ := obj_cells hB2
  have v1 : (convert 22 9 (.slice Ad d.length cd)).run Try.prog w0 = .ok (.string ⟨d.toArray⟩) w0 := conv8f rd
  have v2 : (convert 22 9 (.slice Ad2 d2.length cd2)).run Try.prog w0 = .ok (.string ⟨d2.toArray⟩) w0 := conv8f rd2
  simp only [List.append]
  go_wp2_with (first | (go_at_call 47; (with_reducible refine (SameTexts_t Ap pa cp Ap2 pa2 cp2 _ w.heap.size rp rp2 hpl hpl2 HS).mono ?_); rintro e w4 ⟨rfl, n4, rfl⟩))
  go_ret
  exact ⟨rfl, by first | exact hb | exact hb.drewN' _⟩

set_option maxRecDepth 100000 in
set_option maxHeartbeats 4000000 in
theorem refsame_6 (k : Int) (Ad : Option Addr) (d : List UInt8) (cd : Nat) (Ae : Option Addr) (en : List Ent) (ce : Nat) (tr : ByteArray) (Ap : Option Addr) (pa : List ByteArray) (cp : Nat) (ta na wh : ByteArray) (st : Int) (te : ByteArray) (k2 : Int) (Ad2 : Option Addr) (d2 : List UInt8) (cd2 : Nat) (Ae2 : Option Addr) (en2 : List Ent) (ce2 : Nat) (tr2 : ByteArray) (Ap2 : Option Addr) (pa2 : List ByteArray) (cp2 : Nat) (ta2 na2 wh2 : ByteArray) (st2 : Int) (te2 : ByteArray) (w : World) (hd : Rd w w.heap.size 1 Ad d.length (bc d)) (he : Rd w w.heap.size 3 Ae en.length (ec en)) (hp : Rd w w.heap.size 1 Ap pa.length (pc pa)) (hel : en.length ≤ 140737488355328) (hpl : pa.length ≤ 140737488355328) (hd2 : Rd w w.heap.size 1 Ad2 d2.length (bc d2)) (he2 : Rd w w.heap.size 3 Ae2 en2.length (ec en2)) (hp2 : Rd w w.heap.size 1 Ap2 pa2.length (pc pa2)) (hel2 : en2.length ≤ 140737488355328) (hpl2 : pa2.length ≤ 140737488355328) (h0 : k = k2) (h1 : d = d2) (h2 : en.length = en2.length) (h3 : tr = tr2) (h4 : pa = pa2) (h5 : ta = ta2) (h6 : ¬ (na = na2)) :
    Calls Try.prog 38 #[.agg #[.int .i64 k, .slice Ad d.length cd, .slice Ae en.length ce, .string tr, .slice Ap pa.length cp, .string ta, .string na, .string wh, .int .i64 st, .string te], .agg #[.int .i64 k2, .slice Ad2 d2.length cd2, .slice Ae2 en2.length ce2, .string tr2, .slice Ap2 pa2.length cp2, .string ta2, .string na2, .string wh2, .int .i64 st2, .string te2]] w fun e w' => e = .returned (.bool false) ∧ Below w.heap.size w w' := by
  have hb : Below w.heap.size w ((w.alloc (.cells #[.int .i64 k, .slice Ad d.length cd, .slice Ae en.length ce, .string tr, .slice Ap pa.length cp, .string ta, .string na, .string wh, .int .i64 st, .string te] 43)).alloc (.cells #[.int .i64 k2, .slice Ad2 d2.length cd2, .slice Ae2 en2.length ce2, .string tr2, .slice Ap2 pa2.length cp2, .string ta2, .string na2, .string wh2, .int .i64 st2, .string te2] 43)) := ((Below.refl _ _).alloc (Nat.le_refl _) _).alloc (by simp) _
  have hB1 := (Blk.new w 43 [.int .i64 k, .slice Ad d.length cd, .slice Ae en.length ce, .string tr, .slice Ap pa.length cp, .string ta, .string na, .string wh, .int .i64 st, .string te]).alloc (.cells #[.int .i64 k2, .slice Ad2 d2.length cd2, .slice Ae2 en2.length ce2, .string tr2, .slice Ap2 pa2.length cp2, .string ta2, .string na2, .string wh2, .int .i64 st2, .string te2] 43)
  have hB2 := Blk.new (w.alloc (.cells #[.int .i64 k, .slice Ad d.length cd, .slice Ae en.length ce, .string tr, .slice Ap pa.length cp, .string ta, .string na, .string wh, .int .i64 st, .string te] 43)) 43 [.int .i64 k2, .slice Ad2 d2.length cd2, .slice Ae2 en2.length ce2, .string tr2, .slice Ap2 pa2.length cp2, .string ta2, .string na2, .string wh2, .int .i64 st2, .string te2]
  have hsz : (w.alloc (.cells #[.int .i64 k, .slice Ad d.length cd, .slice Ae en.length ce, .string tr, .slice Ap pa.length cp, .string ta, .string na, .string wh, .int .i64 st, .string te] 43)).heap.size = w.heap.size + 1 := by simp
  rw [hsz] at hB2
  have rd := hd.below hb
  have rd2 := hd2.below hb
  have rp := hp.below hb
  have rp2 := hp2.below hb
  have g0 : (k == k2) = true := beq_iff_eq.2 h0
  have q0 : (k != k2) = false := by rw [bne, g0]; rfl
  have g1 : (d == d2) = true := beq_iff_eq.2 h1
  have g2 : ((en.length : Int) == (en2.length : Int)) = true := beq_iff_eq.2 (by omega)
  have q2 : ((en.length : Int) != (en2.length : Int)) = false := by rw [bne, g2]; rfl
  have g3 : (tr.toList == tr2.toList) = true := str_eq_b h3
  have HS : Hid (pa = pa2) := h4
  have g5 : (ta.toList == ta2.toList) = true := str_eq_b h5
  have g6 : (na.toList == na2.toList) = false := str_ne_b h6
  clear hd hd2 he he2 hp hp2 hsz h0 h1 h2 h3 h4 h5 h6
  go_enter Try.func38, Try.ntmps38
  go_upto_region 1 with fail
  obtain ⟨w0, hw0⟩ : ∃ w0, w0 = ((w.alloc (.cells #[.int .i64 k, .slice Ad d.length cd, .slice Ae en.length ce, .string tr, .slice Ap pa.length cp, .string ta, .string na, .string wh, .int .i64 st, .string te] 43)).alloc (.cells #[.int .i64 k2, .slice Ad2 d2.length cd2, .slice Ae2 en2.length ce2, .string tr2, .slice Ap2 pa2.length cp2, .string ta2, .string na2, .string wh2, .int .i64 st2, .string te2] 43)) := ⟨_, rfl⟩
  change Blk ((w.alloc (.cells #[.int .i64 k, .slice Ad d.length cd, .slice Ae en.length ce, .string tr, .slice Ap pa.length cp, .string ta, .string na, .string wh, .int .i64 st, .string te] 43)).alloc (.cells #[.int .i64 k2, .slice Ad2 d2.length cd2, .slice Ae2 en2.length ce2, .string tr2, .slice Ap2 pa2.length cp2, .string ta2, .string na2, .string wh2, .int .i64 st2, .string te2] 43)) _ _ _ at hB1
  change Blk ((w.alloc (.cells #[.int .i64 k, .slice Ad d.length cd, .slice Ae en.length ce, .string tr, .slice Ap pa.length cp, .string ta, .string na, .string wh, .int .i64 st, .string te] 43)).alloc (.cells #[.int .i64 k2, .slice Ad2 d2.length cd2, .slice Ae2 en2.length ce2, .string tr2, .slice Ap2 pa2.length cp2, .string ta2, .string na2, .string wh2, .int .i64 st2, .string te2] 43)) _ _ _ at hB2
  rw [← hw0] at hB1 hB2 hb rd rd2 rp rp2 ⊢
  clear hw0
  obtain ⟨c0, c1, c2, c3, c4, c5, c6, c7, c8, c9⟩ := obj_cells hB1
  obtain ⟨e0, e1, e2, e3, e4, e5, e6, e7, e8, e9⟩ := obj_cells hB2
  have v1 : (convert 22 9 (.slice Ad d.length cd)).run Try.prog w0 = .ok (.string ⟨d.toArray⟩) w0 := conv8f rd
  have v2 : (convert 22 9 (.slice Ad2 d2.length cd2)).run Try.prog w0 = .ok (.string ⟨d2.toArray⟩) w0 := conv8f rd2
  simp only [List.append]
  go_wp2_with (first | (go_at_call 47; (with_reducible refine (SameTexts_t Ap pa cp Ap2 pa2 cp2 _ w.heap.size rp rp2 hpl hpl2 HS).mono ?_); rintro e w4 ⟨rfl, n4, rfl⟩))
  go_ret
  exact ⟨rfl, by first | exact hb | exact hb.drewN' _⟩

set_option maxRecDepth 100000 in
set_option maxHeartbeats 4000000 in
theorem refsame_7 (k : Int) (Ad : Option Addr) (d : List UInt8) (cd : Nat) (Ae : Option Addr) (en : List Ent) (ce : Nat) (tr : ByteArray) (Ap : Option Addr) (pa : List ByteArray) (cp : Nat) (ta na wh : ByteArray) (st : Int) (te : ByteArray) (k2 : Int) (Ad2 : Option Addr) (d2 : List UInt8) (cd2 : Nat) (Ae2 : Option Addr) (en2 : List Ent) (ce2 : Nat) (tr2 : ByteArray) (Ap2 : Option Addr) (pa2 : List ByteArray) (cp2 : Nat) (ta2 na2 wh2 : ByteArray) (st2 : Int) (te2 : ByteArray) (w : World) (hd : Rd w w.heap.size 1 Ad d.length (bc d)) (he : Rd w w.heap.size 3 Ae en.length (ec en)) (hp : Rd w w.heap.size 1 Ap pa.length (pc pa)) (hel : en.length ≤ 140737488355328) (hpl : pa.length ≤ 140737488355328) (hd2 : Rd w w.heap.size 1 Ad2 d2.length (bc d2)) (he2 : Rd w w.heap.size 3 Ae2 en2.length (ec en2)) (hp2 : Rd w w.heap.size 1 Ap2 pa2.length (pc pa2)) (hel2 : en2.length ≤ 140737488355328) (hpl2 : pa2.length ≤ 140737488355328) (h0 : k = k2) (h1 : d = d2) (h2 : en.length = en2.length) (h3 : tr = tr2) (h4 : pa = pa2) (h5 : ta = ta2) (h6 : na = na2) (h7 : ¬ (wh = wh2)) :
    Calls Try.prog 38 #[.agg #[.int .i64 k, .slice Ad d.length cd, .slice Ae en.length ce, .string tr, .slice Ap pa.length cp, .string ta, .string na, .string wh, .int .i64 st, .string te], .agg #[.int .i64 k2, .slice Ad2 d2.length cd2, .slice Ae2 en2.length ce2, .string tr2, .slice Ap2 pa2.length cp2, .string ta2, .string na2, .string wh2, .int .i64 st2, .string te2]] w fun e w' => e = .returned (.bool false) ∧ Below w.heap.size w w' := by
  have hb : Below w.heap.size w ((w.alloc (.cells #[.int .i64 k, .slice Ad d.length cd, .slice Ae en.length ce, .string tr, .slice Ap pa.length cp, .string ta, .string na, .string wh, .int .i64 st, .string te] 43)).alloc (.cells #[.int .i64 k2, .slice Ad2 d2.length cd2, .slice Ae2 en2.length ce2, .string tr2, .slice Ap2 pa2.length cp2, .string ta2, .string na2, .string wh2, .int .i64 st2, .string te2] 43)) := ((Below.refl _ _).alloc (Nat.le_refl _) _).alloc (by simp) _
  have hB1 := (Blk.new w 43 [.int .i64 k, .slice Ad d.length cd, .slice Ae en.length ce, .string tr, .slice Ap pa.length cp, .string ta, .string na, .string wh, .int .i64 st, .string te]).alloc (.cells #[.int .i64 k2, .slice Ad2 d2.length cd2, .slice Ae2 en2.length ce2, .string tr2, .slice Ap2 pa2.length cp2, .string ta2, .string na2, .string wh2, .int .i64 st2, .string te2] 43)
  have hB2 := Blk.new (w.alloc (.cells #[.int .i64 k, .slice Ad d.length cd, .slice Ae en.length ce, .string tr, .slice Ap pa.length cp, .string ta, .string na, .string wh, .int .i64 st, .string te] 43)) 43 [.int .i64 k2, .slice Ad2 d2.length cd2, .slice Ae2 en2.length ce2, .string tr2, .slice Ap2 pa2.length cp2, .string ta2, .string na2, .string wh2, .int .i64 st2, .string te2]
  have hsz : (w.alloc (.cells #[.int .i64 k, .slice Ad d.length cd, .slice Ae en.length ce, .string tr, .slice Ap pa.length cp, .string ta, .string na, .string wh, .int .i64 st, .string te] 43)).heap.size = w.heap.size + 1 := by simp
  rw [hsz] at hB2
  have rd := hd.below hb
  have rd2 := hd2.below hb
  have rp := hp.below hb
  have rp2 := hp2.below hb
  have g0 : (k == k2) = true := beq_iff_eq.2 h0
  have q0 : (k != k2) = false := by rw [bne, g0]; rfl
  have g1 : (d == d2) = true := beq_iff_eq.2 h1
  have g2 : ((en.length : Int) == (en2.length : Int)) = true := beq_iff_eq.2 (by omega)
  have q2 : ((en.length : Int) != (en2.length : Int)) = false := by rw [bne, g2]; rfl
  have g3 : (tr.toList == tr2.toList) = true := str_eq_b h3
  have HS : Hid (pa = pa2) := h4
  have g5 : (ta.toList == ta2.toList) = true := str_eq_b h5
  have g6 : (na.toList == na2.toList) = true := str_eq_b h6
  have g7 : (wh.toList == wh2.toList) = false := str_ne_b h7
  clear hd hd2 he he2 hp hp2 hsz h0 h1 h2 h3 h4 h5 h6 h7
  go_enter Try.func38, Try.ntmps38
  go_upto_region 1 with fail
  obtain ⟨w0, hw0⟩ : ∃ w0, w0 = ((w.alloc (.cells #[.int .i64 k, .slice Ad d.length cd, .slice Ae en.length ce, .string tr, .slice Ap pa.length cp, .string ta, .string na, .string wh, .int .i64 st, .string te] 43)).alloc (.cells #[.int .i64 k2, .slice Ad2 d2.length cd2, .slice Ae2 en2.length ce2, .string tr2, .slice Ap2 pa2.length cp2, .string ta2, .string na2, .string wh2, .int .i64 st2, .string te2] 43)) := ⟨_, rfl⟩
  change Blk ((w.alloc (.cells #[.int .i64 k, .slice Ad d.length cd, .slice Ae en.length ce, .string tr, .slice Ap pa.length cp, .string ta, .string na, .string wh, .int .i64 st, .string te] 43)).alloc (.cells #[.int .i64 k2, .slice Ad2 d2.length cd2, .slice Ae2 en2.length ce2, .string tr2, .slice Ap2 pa2.length cp2, .string ta2, .string na2, .string wh2, .int .i64 st2, .string te2] 43)) _ _ _ at hB1
  change Blk ((w.alloc (.cells #[.int .i64 k, .slice Ad d.length cd, .slice Ae en.length ce, .string tr, .slice Ap pa.length cp, .string ta, .string na, .string wh, .int .i64 st, .string te] 43)).alloc (.cells #[.int .i64 k2, .slice Ad2 d2.length cd2, .slice Ae2 en2.length ce2, .string tr2, .slice Ap2 pa2.length cp2, .string ta2, .string na2, .string wh2, .int .i64 st2, .string te2] 43)) _ _ _ at hB2
  rw [← hw0] at hB1 hB2 hb rd rd2 rp rp2 ⊢
  clear hw0
  obtain ⟨c0, c1, c2, c3, c4, c5, c6, c7, c8, c9⟩ := obj_cells hB1
  obtain ⟨e0, e1, e2, e3, e4, e5, e6, e7, e8, e9⟩ := obj_cells hB2
  have v1 : (convert 22 9 (.slice Ad d.length cd)).run Try.prog w0 = .ok (.string ⟨d.toArray⟩) w0 := conv8f rd
  have v2 : (convert 22 9 (.slice Ad2 d2.length cd2)).run Try.prog w0 = .ok (.string ⟨d2.toArray⟩) w0 := conv8f rd2
  simp only [List.append]
  go_wp2_with (first | (go_at_call 47; (with_reducible refine (SameTexts_t Ap pa cp Ap2 pa2 cp2 _ w.heap.size rp rp2 hpl hpl2 HS).mono ?_); rintro e w4 ⟨rfl, n4, rfl⟩))
  go_ret
  exact ⟨rfl, by first | exact hb | exact hb.drewN' _⟩

set_option maxRecDepth 100000 in
set_option maxHeartbeats 4000000 in
theorem refsame_8 (k : Int) (Ad : Option Addr) (d : List UInt8) (cd : Nat) (Ae : Option Addr) (en : List Ent) (ce : Nat) (tr : ByteArray) (Ap : Option Addr) (pa : List ByteArray) (cp : Nat) (ta na wh : ByteArray) (st : Int) (te : ByteArray) (k2 : Int) (Ad2 : Option Addr) (d2 : List UInt8) (cd2 : Nat) (Ae2 : Option Addr) (en2 : List Ent) (ce2 : Nat) (tr2 : ByteArray) (Ap2 : Option Addr) (pa2 : List ByteArray) (cp2 : Nat) (ta2 na2 wh2 : ByteArray) (st2 : Int) (te2 : ByteArray) (w : World) (hd : Rd w w.heap.size 1 Ad d.length (bc d)) (he : Rd w w.heap.size 3 Ae en.length (ec en)) (hp : Rd w w.heap.size 1 Ap pa.length (pc pa)) (hel : en.length ≤ 140737488355328) (hpl : pa.length ≤ 140737488355328) (hd2 : Rd w w.heap.size 1 Ad2 d2.length (bc d2)) (he2 : Rd w w.heap.size 3 Ae2 en2.length (ec en2)) (hp2 : Rd w w.heap.size 1 Ap2 pa2.length (pc pa2)) (hel2 : en2.length ≤ 140737488355328) (hpl2 : pa2.length ≤ 140737488355328) (h0 : k = k2) (h1 : d = d2) (h2 : en.length = en2.length) (h3 : tr = tr2) (h4 : pa = pa2) (h5 : ta = ta2) (h6 : na = na2) (h7 : wh = wh2) (h8 : ¬ (st = st2)) :
    Calls Try.prog 38 #[.agg #[.int .i64 k, .slice Ad d.length cd, .slice Ae en.length ce, .string tr, .slice Ap pa.length cp, .string ta, .string na, .string wh, .int .i64 st, .string te], .agg #[.int .i64 k2, .slice Ad2 d2.length cd2, .slice Ae2 en2.length ce2, .string tr2, .slice Ap2 pa2.length cp2, .string ta2, .string na2, .string wh2, .int .i64 st2, .string te2]] w fun e w' => e = .returned (.bool false) ∧ Below w.heap.size w w' := by
  have hb : Below w.heap.size w ((w.alloc (.cells #[.int .i64 k, .slice Ad d.length cd, .slice Ae en.length ce, .string tr, .slice Ap pa.length cp, .string ta, .string na, .string wh, .int .i64 st, .string te] 43)).alloc (.cells #[.int .i64 k2, .slice Ad2 d2.length cd2, .slice Ae2 en2.length ce2, .string tr2, .slice Ap2 pa2.length cp2, .string ta2, .string na2, .string wh2, .int .i64 st2, .string te2] 43)) := ((Below.refl _ _).alloc (Nat.le_refl _) _).alloc (by simp) _
  have hB1 := (Blk.new w 43 [.int .i64 k, .slice Ad d.length cd, .slice Ae en.length ce, .string tr, .slice Ap pa.length cp, .string ta, .string na, .string wh, .int .i64 st, .string te]).alloc (.cells #[.int .i64 k2, .slice Ad2 d2.length cd2, .slice Ae2 en2.length ce2, .string tr2, .slice Ap2 pa2.length cp2, .string ta2, .string na2, .string wh2, .int .i64 st2, .string te2] 43)
  have hB2 := Blk.new (w.alloc (.cells #[.int .i64 k, .slice Ad d.length cd, .slice Ae en.length ce, .string tr, .slice Ap pa.length cp, .string ta, .string na, .string wh, .int .i64 st, .string te] 43)) 43 [.int .i64 k2, .slice Ad2 d2.length cd2, .slice Ae2 en2.length ce2, .string tr2, .slice Ap2 pa2.length cp2, .string ta2, .string na2, .string wh2, .int .i64 st2, .string te2]
  have hsz : (w.alloc (.cells #[.int .i64 k, .slice Ad d.length cd, .slice Ae en.length ce, .string tr, .slice Ap pa.length cp, .string ta, .string na, .string wh, .int .i64 st, .string te] 43)).heap.size = w.heap.size + 1 := by simp
  rw [hsz] at hB2
  have rd := hd.below hb
  have rd2 := hd2.below hb
  have rp := hp.below hb
  have rp2 := hp2.below hb
  have g0 : (k == k2) = true := beq_iff_eq.2 h0
  have q0 : (k != k2) = false := by rw [bne, g0]; rfl
  have g1 : (d == d2) = true := beq_iff_eq.2 h1
  have g2 : ((en.length : Int) == (en2.length : Int)) = true := beq_iff_eq.2 (by omega)
  have q2 : ((en.length : Int) != (en2.length : Int)) = false := by rw [bne, g2]; rfl
  have g3 : (tr.toList == tr2.toList) = true := str_eq_b h3
  have HS : Hid (pa = pa2) := h4
  have g5 : (ta.toList == ta2.toList) = true := str_eq_b h5
  have g6 : (na.toList == na2.toList) = true := str_eq_b h6
  have g7 : (wh.toList == wh2.toList) = true := str_eq_b h7
  have g8 : (st == st2) = false := beq_eq_false_iff_ne.2 h8
  have q8 : (st != st2) = true := by rw [bne, g8]; rfl
  clear hd hd2 he he2 hp hp2 hsz h0 h1 h2 h3 h4 h5 h6 h7 h8
  go_enter Try.func38, Try.ntmps38
  go_upto_region 1 with fail
  obtain ⟨w0, hw0⟩ : ∃ w0, w0 = ((w.alloc (.cells #[.int .i64 k, .slice Ad d.length cd, .slice Ae en.length ce, .string tr, .slice Ap pa.length cp, .string ta, .string na, .string wh, .int .i64 st, .string te] 43)).alloc (.cells #[.int .i64 k2, .slice Ad2 d2.length cd2, .slice Ae2 en2.length ce2, .string tr2, .slice Ap2 pa2.length cp2, .string ta2, .string na2, .string wh2, .int .i64 st2, .string te2] 43)) := ⟨_, rfl⟩
  change Blk ((w.alloc (.cells #[.int .i64 k, .slice Ad d.length cd, .slice Ae en.length ce, .string tr, .slice Ap pa.length cp, .string ta, .string na, .string wh, .int .i64 st, .string te] 43)).alloc (.cells #[.int .i64 k2, .slice Ad2 d2.length cd2, .slice Ae2 en2.length ce2, .string tr2, .slice Ap2 pa2.length cp2, .string ta2, .string na2, .string wh2, .int .i64 st2, .string te2] 43)) _ _ _ at hB1
  change Blk ((w.alloc (.cells #[.int .i64 k, .slice Ad d.length cd, .slice Ae en.length ce, .string tr, .slice Ap pa.length cp, .string ta, .string na, .string wh, .int .i64 st, .string te] 43)).alloc (.cells #[.int .i64 k2, .slice Ad2 d2.length cd2, .slice Ae2 en2.length ce2, .string tr2, .slice Ap2 pa2.length cp2, .string ta2, .string na2, .string wh2, .int .i64 st2, .string te2] 43)) _ _ _ at hB2
  rw [← hw0] at hB1 hB2 hb rd rd2 rp rp2 ⊢
  clear hw0
  obtain ⟨c0, c1, c2, c3, c4, c5, c6, c7, c8, c9⟩ := obj_cells hB1
  obtain ⟨e0, e1, e2, e3, e4, e5, e6, e7, e8, e9⟩ := obj_cells hB2
  have v1 : (convert 22 9 (.slice Ad d.length cd)).run Try.prog w0 = .ok (.string ⟨d.toArray⟩) w0 := conv8f rd
  have v2 : (convert 22 9 (.slice Ad2 d2.length cd2)).run Try.prog w0 = .ok (.string ⟨d2.toArray⟩) w0 := conv8f rd2
  simp only [List.append]
  go_wp2_with (first | (go_at_call 47; (with_reducible refine (SameTexts_t Ap pa cp Ap2 pa2 cp2 _ w.heap.size rp rp2 hpl hpl2 HS).mono ?_); rintro e w4 ⟨rfl, n4, rfl⟩))
  go_ret
  exact ⟨rfl, by first | exact hb | exact hb.drewN' _⟩

set_option maxRecDepth 100000 in
set_option maxHeartbeats 4000000 in
theorem refsame_9 (k : Int) (Ad : Option Addr) (d : List UInt8) (cd : Nat) (Ae : Option Addr) (en : List Ent) (ce : Nat) (tr : ByteArray) (Ap : Option Addr) (pa : List ByteArray) (cp : Nat) (ta na wh : ByteArray) (st : Int) (te : ByteArray) (k2 : Int) (Ad2 : Option Addr) (d2 : List UInt8) (cd2 : Nat) (Ae2 : Option Addr) (en2 : List Ent) (ce2 : Nat) (tr2 : ByteArray) (Ap2 : Option Addr) (pa2 : List ByteArray) (cp2 : Nat) (ta2 na2 wh2 : ByteArray) (st2 : Int) (te2 : ByteArray) (w : World) (hd : Rd w w.heap.size 1 Ad d.length (bc d)) (he : Rd w w.heap.size 3 Ae en.length (ec en)) (hp : Rd w w.heap.size 1 Ap pa.length (pc pa)) (hel : en.length ≤ 140737488355328) (hpl : pa.length ≤ 140737488355328) (hd2 : Rd w w.heap.size 1 Ad2 d2.length (bc d2)) (he2 : Rd w w.heap.size 3 Ae2 en2.length (ec en2)) (hp2 : Rd w w.heap.size 1 Ap2 pa2.length (pc pa2)) (hel2 : en2.length ≤ 140737488355328) (hpl2 : pa2.length ≤ 140737488355328) (h0 : k = k2) (h1 : d = d2) (h2 : en.length = en2.length) (h3 : tr = tr2) (h4 : pa = pa2) (h5 : ta = ta2) (h6 : na = na2) (h7 : wh = wh2) (h8 : st = st2) (h9 : ¬ (te = te2)) :
    Calls Try.prog 38 #[.agg #[.int .i64 k, .slice Ad d.length cd, .slice Ae en.length ce, .string tr, .slice Ap pa.length cp, .string ta, .string na, .string wh, .int .i64 st, .string te], .agg #[.int .i64 k2, .slice Ad2 d2.length cd2, .slice Ae2 en2.length ce2, .string tr2, .slice Ap2 pa2.length cp2, .string ta2, .string na2, .string wh2, .int .i64 st2, .string te2]] w fun e w' => e = .returned (.bool false) ∧ Below w.heap.size w w' := by
  have hb : Below w.heap.size w ((w.alloc (.cells #[.int .i64 k, .slice Ad d.length cd, .slice Ae en.length ce, .string tr, .slice Ap pa.length cp, .string ta, .string na, .string wh, .int .i64 st, .string te] 43)).alloc (.cells #[.int .i64 k2, .slice Ad2 d2.length cd2, .slice Ae2 en2.length ce2, .string tr2, .slice Ap2 pa2.length cp2, .string ta2, .string na2, .string wh2, .int .i64 st2, .string te2] 43)) := ((Below.refl _ _).alloc (Nat.le_refl _) _).alloc (by simp) _
  have hB1 := (Blk.new w 43 [.int .i64 k, .slice Ad d.length cd, .slice Ae en.length ce, .string tr, .slice Ap pa.length cp, .string ta, .string na, .string wh, .int .i64 st, .string te]).alloc (.cells #[.int .i64 k2, .slice Ad2 d2.length cd2, .slice Ae2 en2.length ce2, .string tr2, .slice Ap2 pa2.length cp2, .string ta2, .string na2, .string wh2, .int .i64 st2, .string te2] 43)
  have hB2 := Blk.new (w.alloc (.cells #[.int .i64 k, .slice Ad d.length cd, .slice Ae en.length ce, .string tr, .slice Ap pa.length cp, .string ta, .string na, .string wh, .int .i64 st, .string te] 43)) 43 [.int .i64 k2, .slice Ad2 d2.length cd2, .slice Ae2 en2.length ce2, .string tr2, .slice Ap2 pa2.length cp2, .string ta2, .string na2, .string wh2, .int .i64 st2, .string te2]
  have hsz : (w.alloc (.cells #[.int .i64 k, .slice Ad d.length cd, .slice Ae en.length ce, .string tr, .slice Ap pa.length cp, .string ta, .string na, .string wh, .int .i64 st, .string te] 43)).heap.size = w.heap.size + 1 := by simp
  rw [hsz] at hB2
  have rd := hd.below hb
  have rd2 := hd2.below hb
  have rp := hp.below hb
  have rp2 := hp2.below hb
  have g0 : (k == k2) = true := beq_iff_eq.2 h0
  have q0 : (k != k2) = false := by rw [bne, g0]; rfl
  have g1 : (d == d2) = true := beq_iff_eq.2 h1
  have g2 : ((en.length : Int) == (en2.length : Int)) = true := beq_iff_eq.2 (by omega)
  have q2 : ((en.length : Int) != (en2.length : Int)) = false := by rw [bne, g2]; rfl
  have g3 : (tr.toList == tr2.toList) = true := str_eq_b h3
  have HS : Hid (pa = pa2) := h4
  have g5 : (ta.toList == ta2.toList) = true := str_eq_b h5
  have g6 : (na.toList == na2.toList) = true := str_eq_b h6
  have g7 : (wh.toList == wh2.toList) = true := str_eq_b h7
  have g8 : (st == st2) = true := beq_iff_eq.2 h8
  have q8 : (st != st2) = false := by rw [bne, g8]; rfl
  have g9 : (te.toList == te2.toList) = false := str_ne_b h9
  clear hd hd2 he he2 hp hp2 hsz h0 h1 h2 h3 h4 h5 h6 h7 h8 h9
  go_enter Try.func38, Try.ntmps38
  go_upto_region 1 with fail
  obtain ⟨w0, hw0⟩ : ∃ w0, w0 = ((w.alloc (.cells #[.int .i64 k, .slice Ad d.length cd, .slice Ae en.length ce, .string tr, .slice Ap pa.length cp, .string ta, .string na, .string wh, .int .i64 st, .string te] 43)).alloc (.cells #[.int .i64 k2, .slice Ad2 d2.length cd2, .slice Ae2 en2.length ce2, .string tr2, .slice Ap2 pa2.length cp2, .string ta2, .string na2, .string wh2, .int .i64 st2, .string te2] 43)) := ⟨_, rfl⟩
  change Blk ((w.alloc (.cells #[.int .i64 k, .slice Ad d.length cd, .slice Ae en.length ce, .string tr, .slice Ap pa.length cp, .string ta, .string na, .string wh, .int .i64 st, .string te] 43)).alloc (.cells #[.int .i64 k2, .slice Ad2 d2.length cd2, .slice Ae2 en2.length ce2, .string tr2, .slice Ap2 pa2.length cp2, .string ta2, .string na2, .string wh2, .int .i64 st2, .string te2] 43)) _ _ _ at hB1
  change Blk ((w.alloc (.cells #[.int .i64 k, .slice Ad d.length cd, .slice Ae en.length ce, .string tr, .slice Ap pa.length cp, .string ta, .string na, .string wh, .int .i64 st, .string te] 43)).alloc (.cells #[.int .i64 k2, .slice Ad2 d2.length cd2, .slice Ae2 en2.length ce2, .string tr2, .slice Ap2 pa2.length cp2, .string ta2, .string na2, .string wh2, .int .i64 st2, .string te2] 43)) _ _ _ at hB2
  rw [← hw0] at hB1 hB2 hb rd rd2 rp rp2 ⊢
  clear hw0
  obtain ⟨c0, c1, c2, c3, c4, c5, c6, c7, c8, c9⟩ := obj_cells hB1
  obtain ⟨e0, e1, e2, e3, e4, e5, e6, e7, e8, e9⟩ := obj_cells hB2
  have v1 : (convert 22 9 (.slice Ad d.length cd)).run Try.prog w0 = .ok (.string ⟨d.toArray⟩) w0 := conv8f rd
  have v2 : (convert 22 9 (.slice Ad2 d2.length cd2)).run Try.prog w0 = .ok (.string ⟨d2.toArray⟩) w0 := conv8f rd2
  simp only [List.append]
  go_wp2_with (first | (go_at_call 47; (with_reducible refine (SameTexts_t Ap pa cp Ap2 pa2 cp2 _ w.heap.size rp rp2 hpl hpl2 HS).mono ?_); rintro e w4 ⟨rfl, n4, rfl⟩))
  go_ret
  exact ⟨rfl, by first | exact hb | exact hb.drewN' _⟩

set_option maxRecDepth 100000 in
set_option maxHeartbeats 4000000 in
theorem refsame_10 (k : Int) (Ad : Option Addr) (d : List UInt8) (cd : Nat) (Ae : Option Addr) (en : List Ent) (ce : Nat) (tr : ByteArray) (Ap : Option Addr) (pa : List ByteArray) (cp : Nat) (ta na wh : ByteArray) (st : Int) (te : ByteArray) (k2 : Int) (Ad2 : Option Addr) (d2 : List UInt8) (cd2 : Nat) (Ae2 : Option Addr) (en2 : List Ent) (ce2 : Nat) (tr2 : ByteArray) (Ap2 : Option Addr) (pa2 : List ByteArray) (cp2 : Nat) (ta2 na2 wh2 : ByteArray) (st2 : Int) (te2 : ByteArray) (w : World) (hd : Rd w w.heap.size 1 Ad d.length (bc d)) (he : Rd w w.heap.size 3 Ae en.length (ec en)) (hp : Rd w w.heap.size 1 Ap pa.length (pc pa)) (hel : en.length ≤ 140737488355328) (hpl : pa.length ≤ 140737488355328) (hd2 : Rd w w.heap.size 1 Ad2 d2.length (bc d2)) (he2 : Rd w w.heap.size 3 Ae2 en2.length (ec en2)) (hp2 : Rd w w.heap.size 1 Ap2 pa2.length (pc pa2)) (hel2 : en2.length ≤ 140737488355328) (hpl2 : pa2.length ≤ 140737488355328) (h0 : k = k2) (h1 : d = d2) (h2 : en.length = en2.length) (h3 : tr = tr2) (h4 : pa = pa2) (h5 : ta = ta2) (h6 : na = na2) (h7 : wh = wh2) (h8 : st = st2) (h9 : te = te2) :
    Calls Try.prog 38 #[.agg #[.int .i64 k, .slice Ad d.length cd, .slice Ae en.length ce, .string tr, .slice Ap pa.length cp, .string ta, .string na, .string wh, .int .i64 st, .string te], .agg #[.int .i64 k2, .slice Ad2 d2.length cd2, .slice Ae2 en2.length ce2, .string tr2, .slice Ap2 pa2.length cp2, .string ta2, .string na2, .string wh2, .int .i64 st2, .string te2]] w (RetEqB (en = en2) w) := by
  have hb : Below w.heap.size w ((w.alloc (.cells #[.int .i64 k, .slice Ad d.length cd, .slice Ae en.length ce, .string tr, .slice Ap pa.length cp, .string ta, .string na, .string wh, .int .i64 st, .string te] 43)).alloc (.cells #[.int .i64 k2, .slice Ad2 d2.length cd2, .slice Ae2 en2.length ce2, .string tr2, .slice Ap2 pa2.length cp2, .string ta2, .string na2, .string wh2, .int .i64 st2, .string te2] 43)) := ((Below.refl _ _).alloc (Nat.le_refl _) _).alloc (by simp) _
  have hB1 := (Blk.new w 43 [.int .i64 k, .slice Ad d.length cd, .slice Ae en.length ce, .string tr, .slice Ap pa.length cp, .string ta, .string na, .string wh, .int .i64 st, .string te]).alloc (.cells #[.int .i64 k2, .slice Ad2 d2.length cd2, .slice Ae2 en2.length ce2, .string tr2, .slice Ap2 pa2.length cp2, .string ta2, .string na2, .string wh2, .int .i64 st2, .string te2] 43)
  have hB2 := Blk.new (w.alloc (.cells #[.int .i64 k, .slice Ad d.length cd, .slice Ae en.length ce, .string tr, .slice Ap pa.length cp, .string ta, .string na, .string wh, .int .i64 st, .string te] 43)) 43 [.int .i64 k2, .slice Ad2 d2.length cd2, .slice Ae2 en2.length ce2, .string tr2, .slice Ap2 pa2.length cp2, .string ta2, .string na2, .string wh2, .int .i64 st2, .string te2]
  have hsz : (w.alloc (.cells #[.int .i64 k, .slice Ad d.length cd, .slice Ae en.length ce, .string tr, .slice Ap pa.length cp, .string ta, .string na, .string wh, .int .i64 st, .string te] 43)).heap.size = w.heap.size + 1 := by simp
  rw [hsz] at hB2
  have rd := hd.below hb
  have rd2 := hd2.below hb
  have re := he.below hb
  have re2 := he2.below hb
  have rp := hp.below hb
  have rp2 := hp2.below hb
  have g0 : (k == k2) = true := beq_iff_eq.2 h0
  have q0 : (k != k2) = false := by rw [bne, g0]; rfl
  have g1 : (d == d2) = true := beq_iff_eq.2 h1
  have g2 : ((en.length : Int) == (en2.length : Int)) = true := beq_iff_eq.2 (by omega)
  have q2 : ((en.length : Int) != (en2.length : Int)) = false := by rw [bne, g2]; rfl
  have g3 : (tr.toList == tr2.toList) = true := str_eq_b h3
  have HS : Hid (pa = pa2) := h4
  have g5 : (ta.toList == ta2.toList) = true := str_eq_b h5
  have g6 : (na.toList == na2.toList) = true := str_eq_b h6
  have g7 : (wh.toList == wh2.toList) = true := str_eq_b h7
  have g8 : (st == st2) = true := beq_iff_eq.2 h8
  have q8 : (st != st2) = false := by rw [bne, g8]; rfl
  have g9 : (te.toList == te2.toList) = true := str_eq_b h9
  have HL := Lib.hid h2
  have hl1 : en.length ≤ en2.length := by omega
  clear hd hd2 he he2 hp hp2 hsz h0 h1 h2 h3 h4 h5 h6 h7 h8 h9
  go_enter Try.func38, Try.ntmps38
  go_upto_region 1 with fail
  obtain ⟨w0, hw0⟩ : ∃ w0, w0 = ((w.alloc (.cells #[.int .i64 k, .slice Ad d.length cd, .slice Ae en.length ce, .string tr, .slice Ap pa.length cp, .string ta, .string na, .string wh, .int .i64 st, .string te] 43)).alloc (.cells #[.int .i64 k2, .slice Ad2 d2.length cd2, .slice Ae2 en2.length ce2, .string tr2, .slice Ap2 pa2.length cp2, .string ta2, .string na2, .string wh2, .int .i64 st2, .string te2] 43)) := ⟨_, rfl⟩
  change Blk ((w.alloc (.cells #[.int .i64 k, .slice Ad d.length cd, .slice Ae en.length ce, .string tr, .slice Ap pa.length cp, .string ta, .string na, .string wh, .int .i64 st, .string te] 43)).alloc (.cells #[.int .i64 k2, .slice Ad2 d2.length cd2, .slice Ae2 en2.length ce2, .string tr2, .slice Ap2 pa2.length cp2, .string ta2, .string na2, .string wh2, .int .i64 st2, .string te2] 43)) _ _ _ at hB1
  change Blk ((w.alloc (.cells #[.int .i64 k, .slice Ad d.length cd, .slice Ae en.length ce, .string tr, .slice Ap pa.length cp, .string ta, .string na, .string wh, .int .i64 st, .string te] 43)).alloc (.cells #[.int .i64 k2, .slice Ad2 d2.length cd2, .slice Ae2 en2.length ce2, .string tr2, .slice Ap2 pa2.length cp2, .string ta2, .string na2, .string wh2, .int .i64 st2, .string te2] 43)) _ _ _ at hB2
  rw [← hw0] at hB1 hB2 hb rd rd2 re re2 rp rp2 ⊢
  clear hw0
  obtain ⟨c0, c1, c2, c3, c4, c5, c6, c7, c8, c9⟩ := obj_cells hB1
  obtain ⟨e0, e1, e2, e3, e4, e5, e6, e7, e8, e9⟩ := obj_cells hB2
  have v1 : (convert 22 9 (.slice Ad d.length cd)).run Try.prog w0 = .ok (.string ⟨d.toArray⟩) w0 := conv8f rd
  have v2 : (convert 22 9 (.slice Ad2 d2.length cd2)).run Try.prog w0 = .ok (.string ⟨d2.toArray⟩) w0 := conv8f rd2
  simp only [List.append]
  go_wp2_with (first | (go_at_call 47; (with_reducible refine (SameTexts_t Ap pa cp Ap2 pa2 cp2 _ w.heap.size rp rp2 hpl hpl2 HS).mono ?_); rintro e w4 ⟨rfl, n4, rfl⟩))
  have z1 := c2
  have z2 := e2
  clear c0 c1 c2 c3 c4 c5 c6 c7 c8 c9 e0 e1 e2 e3 e4 e5 e6 e7 e8 e9 v1 v2 g0 g1 g2 g3 g5 g6 g7 g8 g9 q0 q2 q8 HS rp rp2 rd rd2 hB1 hB2
  go_loopw [5] (fun i wr => EqualERel en en2 w0 i wr) (fun i _ => en.length - (intOf i).toNat)
  case atStart => exact ⟨0, n4, rfl, Nat.zero_le _, fun j hj => by omega, rfl⟩
  case round =>
    obtain ⟨k', q, rfl, hk, hs, hwr⟩ := hrel
    have y1 : wr.cell? ⟨w.heap.size, 2, none⟩ = some (.slice Ae en.length ce) := by rw [hwr.out]; exact z1
    have y2 : wr.cell? ⟨w.heap.size + 1, 2, none⟩ = some (.slice Ae2 en2.length ce2) := by rw [hwr.out]; exact z2
    have hrw : Rd wr w.heap.size 3 Ae en.length (ec en) := by rw [hwr.out]; exact re.drewN q
    have hrw2 : Rd wr w.heap.size 3 Ae2 en2.length (ec en2) := by rw [hwr.out]; exact re2.drewN q
    have f1 : IntKind.i64.wrap ((k' : Int) + 1) = (k' : Int) + 1 := IntWalk.i64_in _ (by omega)
    clear z1 z2 re re2
    by_cases h1 : k' < en.length
    · have d1 : decide ((k' : Int) < (en.length : Int)) = true := by simp; omega
      have d1' : (k' : Int) < (en.length : Int) := by omega
      have d2' : (k' : Int) < (en2.length : Int) := by omega
      have hk0 : (0 : Int) ≤ (k' : Int) := by omega
      have h2 : k' < en2.length := by omega
      have hlen1 : en.length ≤ 9223372036854775807 := by omega
      obtain ⟨bb, off, rfl, hbb, hcell⟩ := hrw.at_ (by omega)
      obtain ⟨bb2, off2, rfl, hbb2, hcell2⟩ := hrw2.at_ (by omega)
      obtain ⟨p0, p1, p2⟩ := ec_get h1
      obtain ⟨r0, r1, r2⟩ := ec_get h2
      have c0 := hcell _ _ p0
      have c1 : wr.cell? ⟨bb, off + k' * 3 + 1, none⟩ = _ := hcell _ _ p1
      have c2 : wr.cell? ⟨bb, off + k' * 3 + 2, none⟩ = _ := hcell _ _ p2
      have e0 := hcell2 _ _ r0
      have e1 : wr.cell? ⟨bb2, off2 + k' * 3 + 1, none⟩ = _ := hcell2 _ _ r1
      have e2 : wr.cell? ⟨bb2, off2 + k' * 3 + 2, none⟩ = _ := hcell2 _ _ r2
      have g1 : en[k']? = some en[k'] := List.getElem?_eq_getElem h1
      have g2 : en2[k']? = some en2[k'] := List.getElem?_eq_getElem h2
      have G1 := Lib.hid g1
      have G2 := Lib.hid g2
      obtain ⟨x, hx⟩ : ∃ x, x = en[k'] := ⟨_, rfl⟩
      obtain ⟨y, hy⟩ : ∃ y, y = en2[k'] := ⟨_, rfl⟩
      rw [← hx] at c0 c1 c2 G1
      rw [← hy] at e0 e1 e2 G2
      obtain ⟨x0, x1, x2⟩ := x
      obtain ⟨y0, y1', y2'⟩ := y
      simp only at c0 c1 c2 e0 e1 e2
      clear hx hy g1 g2 hcell hcell2 p0 p1 p2 r0 r1 r2
      by_cases h3 : x0 = y0 ∧ x1 = y1' ∧ x2 = y2'
      · obtain ⟨rfl, rfl, rfl⟩ := h3
        have HS : Hid (∀ j, j < k' + 1 → en[j]? = en2[j]?) := fun j hj => by
          by_cases hjk : j = k'
          · rw [hjk, G1.out, G2.out]
          · exact hs.out j (by omega)
        have heq : ∀ w : World, (binOp .neq 56 (.agg #[.string x0, .bool x1, .string x2]) (.agg #[.string x0, .bool x1, .string x2])).run Try.prog w = .ok (.bool false) w := fun w => by rw [ent_neq]; simp
        go_wp2_with fail
        go_quiet (fail)
        go_wp2_with fail
        refine ⟨⟨k' + 1, q + nq, by go_num, by omega, HS, by unfold Hid; rw [hwr.out, World.drewN_drewN]⟩, by simp [intOf]; omega⟩
      · have HN : Hid (¬ en = en2) := fun e => by
          have h4 := G2.out
          rw [← e, G1.out] at h4
          injection h4 with h4
          injection h4 with q1 q2 q3
          exact h3 ⟨q1, q2, q3⟩
        have heq : ∀ w : World, (binOp .neq 56 (.agg #[.string x0, .bool x1, .string x2]) (.agg #[.string y0, .bool y1', .string y2'])).run Try.prog w = .ok (.bool true) w := fun w => by
          rw [ent_neq, ent_ne h3]
        go_wp2_with fail
        go_quiet (fail)
        go_wp2_with fail
        go_ret
        exact ⟨false, rfl, by simp [HN.out], by rw [hwr.out, World.drewN_drewN]; exact hb.drewN' _⟩
    · have d1 : decide ((k' : Int) < (en.length : Int)) = false := by simp; omega
      have d1' : ¬ (k' : Int) < (en.length : Int) := by omega
      have HE : Hid (en = en2) := List.ext_getElem? fun j => by
        rcases Nat.lt_or_ge j en.length with hj | hj
        · exact hs.out j (by omega)
        · rw [List.getElem?_eq_none hj, List.getElem?_eq_none (by rw [← HL.out]; exact hj)]
      go_wp2_with fail
      go_ret
      exact ⟨true, rfl, by simp [HE.out], by rw [hwr.out]; exact hb.drewN' _⟩

theorem refSame_calls (k : Int) (Ad : Option Addr) (d : List UInt8) (cd : Nat) (Ae : Option Addr) (en : List Ent) (ce : Nat) (tr : ByteArray) (Ap : Option Addr) (pa : List ByteArray) (cp : Nat) (ta na wh : ByteArray) (st : Int) (te : ByteArray) (k2 : Int) (Ad2 : Option Addr) (d2 : List UInt8) (cd2 : Nat) (Ae2 : Option Addr) (en2 : List Ent) (ce2 : Nat) (tr2 : ByteArray) (Ap2 : Option Addr) (pa2 : List ByteArray) (cp2 : Nat) (ta2 na2 wh2 : ByteArray) (st2 : Int) (te2 : ByteArray) (w : World) (hd : Rd w w.heap.size 1 Ad d.length (bc d)) (he : Rd w w.heap.size 3 Ae en.length (ec en)) (hp : Rd w w.heap.size 1 Ap pa.length (pc pa)) (hel : en.length ≤ 140737488355328) (hpl : pa.length ≤ 140737488355328) (hd2 : Rd w w.heap.size 1 Ad2 d2.length (bc d2)) (he2 : Rd w w.heap.size 3 Ae2 en2.length (ec en2)) (hp2 : Rd w w.heap.size 1 Ap2 pa2.length (pc pa2)) (hel2 : en2.length ≤ 140737488355328) (hpl2 : pa2.length ≤ 140737488355328) :
    Calls Try.prog 38 #[.agg #[.int .i64 k, .slice Ad d.length cd, .slice Ae en.length ce, .string tr, .slice Ap pa.length cp, .string ta, .string na, .string wh, .int .i64 st, .string te], .agg #[.int .i64 k2, .slice Ad2 d2.length cd2, .slice Ae2 en2.length ce2, .string tr2, .slice Ap2 pa2.length cp2, .string ta2, .string na2, .string wh2, .int .i64 st2, .string te2]] w (RetEqB (k = k2 ∧ d = d2 ∧ en = en2 ∧ tr = tr2 ∧ pa = pa2 ∧ ta = ta2 ∧ na = na2 ∧ wh = wh2 ∧ st = st2 ∧ te = te2) w) := by
  by_cases h0 : k = k2
  case neg => exact (refsame_0 k Ad d cd Ae en ce tr Ap pa cp ta na wh st te k2 Ad2 d2 cd2 Ae2 en2 ce2 tr2 Ap2 pa2 cp2 ta2 na2 wh2 st2 te2 w hd he hp hel hpl hd2 he2 hp2 hel2 hpl2 h0).mono fun e w' hr => ⟨false, hr.1, by simp only [Bool.false_eq_true, false_iff]; exact fun h => h0 h.1, hr.2⟩
  case pos =>
    by_cases h1 : d = d2
    case neg => exact (refsame_1 k Ad d cd Ae en ce tr Ap pa cp ta na wh st te k2 Ad2 d2 cd2 Ae2 en2 ce2 tr2 Ap2 pa2 cp2 ta2 na2 wh2 st2 te2 w hd he hp hel hpl hd2 he2 hp2 hel2 hpl2 h0 h1).mono fun e w' hr => ⟨false, hr.1, by simp only [Bool.false_eq_true, false_iff]; exact fun h => h1 h.2.1, hr.2⟩
    case pos =>
      by_cases h2 : en.length = en2.length
      case neg => exact (refsame_2 k Ad d cd Ae en ce tr Ap pa cp ta na wh st te k2 Ad2 d2 cd2 Ae2 en2 ce2 tr2 Ap2 pa2 cp2 ta2 na2 wh2 st2 te2 w hd he hp hel hpl hd2 he2 hp2 hel2 hpl2 h0 h1 h2).mono fun e w' hr => ⟨false, hr.1, by simp only [Bool.false_eq_true, false_iff]; exact fun h => h2 (by rw [h.2.2.1]), hr.2⟩
      case pos =>
        by_cases h3 : tr = tr2
        case neg => exact (refsame_3 k Ad d cd Ae en ce tr Ap pa cp ta na wh st te k2 Ad2 d2 cd2 Ae2 en2 ce2 tr2 Ap2 pa2 cp2 ta2 na2 wh2 st2 te2 w hd he hp hel hpl hd2 he2 hp2 hel2 hpl2 h0 h1 h2 h3).mono fun e w' hr => ⟨false, hr.1, by simp only [Bool.false_eq_true, false_iff]; exact fun h => h3 h.2.2.2.1, hr.2⟩
        case pos =>
          by_cases h4 : pa = pa2
          case neg => exact (refsame_4 k Ad d cd Ae en ce tr Ap pa cp ta na wh st te k2 Ad2 d2 cd2 Ae2 en2 ce2 tr2 Ap2 pa2 cp2 ta2 na2 wh2 st2 te2 w hd he hp hel hpl hd2 he2 hp2 hel2 hpl2 h0 h1 h2 h3 h4).mono fun e w' hr => ⟨false, hr.1, by simp only [Bool.false_eq_true, false_iff]; exact fun h => h4 h.2.2.2.2.1, hr.2⟩
          case pos =>
            by_cases h5 : ta = ta2
            case neg => exact (refsame_5 k Ad d cd Ae en ce tr Ap pa cp ta na wh st te k2 Ad2 d2 cd2 Ae2 en2 ce2 tr2 Ap2 pa2 cp2 ta2 na2 wh2 st2 te2 w hd he hp hel hpl hd2 he2 hp2 hel2 hpl2 h0 h1 h2 h3 h4 h5).mono fun e w' hr => ⟨false, hr.1, by simp only [Bool.false_eq_true, false_iff]; exact fun h => h5 h.2.2.2.2.2.1, hr.2⟩
            case pos =>
              by_cases h6 : na = na2
              case neg => exact (refsame_6 k Ad d cd Ae en ce tr Ap pa cp ta na wh st te k2 Ad2 d2 cd2 Ae2 en2 ce2 tr2 Ap2 pa2 cp2 ta2 na2 wh2 st2 te2 w hd he hp hel hpl hd2 he2 hp2 hel2 hpl2 h0 h1 h2 h3 h4 h5 h6).mono fun e w' hr => ⟨false, hr.1, by simp only [Bool.false_eq_true, false_iff]; exact fun h => h6 h.2.2.2.2.2.2.1, hr.2⟩
              case pos =>
                by_cases h7 : wh = wh2
                case neg => exact (refsame_7 k Ad d cd Ae en ce tr Ap pa cp ta na wh st te k2 Ad2 d2 cd2 Ae2 en2 ce2 tr2 Ap2 pa2 cp2 ta2 na2 wh2 st2 te2 w hd he hp hel hpl hd2 he2 hp2 hel2 hpl2 h0 h1 h2 h3 h4 h5 h6 h7).mono fun e w' hr => ⟨false, hr.1, by simp only [Bool.false_eq_true, false_iff]; exact fun h => h7 h.2.2.2.2.2.2.2.1, hr.2⟩
                case pos =>
                  by_cases h8 : st = st2
                  case neg => exact (refsame_8 k Ad d cd Ae en ce tr Ap pa cp ta na wh st te k2 Ad2 d2 cd2 Ae2 en2 ce2 tr2 Ap2 pa2 cp2 ta2 na2 wh2 st2 te2 w hd he hp hel hpl hd2 he2 hp2 hel2 hpl2 h0 h1 h2 h3 h4 h5 h6 h7 h8).mono fun e w' hr => ⟨false, hr.1, by simp only [Bool.false_eq_true, false_iff]; exact fun h => h8 h.2.2.2.2.2.2.2.2.1, hr.2⟩
                  case pos =>
                    by_cases h9 : te = te2
                    case neg => exact (refsame_9 k Ad d cd Ae en ce tr Ap pa cp ta na wh st te k2 Ad2 d2 cd2 Ae2 en2 ce2 tr2 Ap2 pa2 cp2 ta2 na2 wh2 st2 te2 w hd he hp hel hpl hd2 he2 hp2 hel2 hpl2 h0 h1 h2 h3 h4 h5 h6 h7 h8 h9).mono fun e w' hr => ⟨false, hr.1, by simp only [Bool.false_eq_true, false_iff]; exact fun h => h9 h.2.2.2.2.2.2.2.2.2, hr.2⟩
                    case pos =>
                      exact (refsame_10 k Ad d cd Ae en ce tr Ap pa cp ta na wh st te k2 Ad2 d2 cd2 Ae2 en2 ce2 tr2 Ap2 pa2 cp2 ta2 na2 wh2 st2 te2 w hd he hp hel hpl hd2 he2 hp2 hel2 hpl2 h0 h1 h2 h3 h4 h5 h6 h7 h8 h9).mono fun e w' ⟨v, r1, r2, r3⟩ => ⟨v, r1, r2.trans ⟨fun h => ⟨h0, h1, h, h3, h4, h5, h6, h7, h8, h9⟩, fun h => h.2.2.1⟩, r3⟩
end Go.Proofs.Ytcefbhmmijmefaa
