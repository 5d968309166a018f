/- The walks of the layer 'object', its eighth part: are two objects the same? Conditions: lengths below 2^47. The walks of the layer 'object', its ninth part: may an object be? Conditions: lengths below 2^47. The walks of the layer 'object', its tenth part: an object's bytes. Conditions: lengths below 2^47. The walks of the layer 'object', its eleventh part: an id of a number; Decode where the first byte is no kind. Conditions: lengths below 2^47. -/
import Derived.Test.YtecpbcmpncgokaaGreatObjA
import Derived.Deep.RegionHeld3
import Derived.Test.YtecpbcmpncgokaaGreatWordsA
namespace Go.Proofs.YtecpbcmpncgokaaGreat
open Go.RowKit Go.Dol
set_option linter.unusedVariables false

set_option maxRecDepth 100000 in
set_option maxHeartbeats 4000000 in
theorem same_0 (k : Int) (Ad : Option Addr) (d : List UInt8) (cd : Nat) (Ae : Option Addr) (en : List Ent) (ce : Nat) (tr : ByteArray) (Ap : Option Addr) (pa : List ByteArray) (cp : Nat) (ta na wh : ByteArray) (st : Int) (te : ByteArray) (k2 : Int) (Ad2 : Option Addr) (d2 : List UInt8) (cd2 : Nat) (Ae2 : Option Addr) (en2 : List Ent) (ce2 : Nat) (tr2 : ByteArray) (Ap2 : Option Addr) (pa2 : List ByteArray) (cp2 : Nat) (ta2 na2 wh2 : ByteArray) (st2 : Int) (te2 : ByteArray) (w : World) (hd : Rd w w.heap.size 1 Ad d.length (bc d)) (he : Rd w w.heap.size 3 Ae en.length (ec en)) (hp : Rd w w.heap.size 1 Ap pa.length (pc pa)) (hel : en.length ≤ 140737488355328) (hpl : pa.length ≤ 140737488355328) (hd2 : Rd w w.heap.size 1 Ad2 d2.length (bc d2)) (he2 : Rd w w.heap.size 3 Ae2 en2.length (ec en2)) (hp2 : Rd w w.heap.size 1 Ap2 pa2.length (pc pa2)) (hel2 : en2.length ≤ 140737488355328) (hpl2 : pa2.length ≤ 140737488355328)  (h0 : ¬ (k = k2)) :
    Calls Tryz.prog 158 #[.agg #[.int .i64 k, .slice Ad d.length cd, .slice Ae en.length ce, .string tr, .slice Ap pa.length cp, .string ta, .string na, .string wh, .int .i64 st, .string te], .agg #[.int .i64 k2, .slice Ad2 d2.length cd2, .slice Ae2 en2.length ce2, .string tr2, .slice Ap2 pa2.length cp2, .string ta2, .string na2, .string wh2, .int .i64 st2, .string te2]] w (RetEqB (k = k2 ∧ d = d2 ∧ en = en2 ∧ tr = tr2 ∧ pa = pa2 ∧ ta = ta2 ∧ na = na2 ∧ wh = wh2 ∧ st = st2 ∧ te = te2) w) := by
  have hb : Below w.heap.size w ((w.alloc (.cells #[.int .i64 k, .slice Ad d.length cd, .slice Ae en.length ce, .string tr, .slice Ap pa.length cp, .string ta, .string na, .string wh, .int .i64 st, .string te] 40)).alloc (.cells #[.int .i64 k2, .slice Ad2 d2.length cd2, .slice Ae2 en2.length ce2, .string tr2, .slice Ap2 pa2.length cp2, .string ta2, .string na2, .string wh2, .int .i64 st2, .string te2] 40)) := ((Below.refl _ _).alloc (Nat.le_refl _) _).alloc (by simp) _
  have hv1 : (convert 36 9 (.slice Ad d.length cd)).run Tryz.prog ((w.alloc (.cells #[.int .i64 k, .slice Ad d.length cd, .slice Ae en.length ce, .string tr, .slice Ap pa.length cp, .string ta, .string na, .string wh, .int .i64 st, .string te] 40)).alloc (.cells #[.int .i64 k2, .slice Ad2 d2.length cd2, .slice Ae2 en2.length ce2, .string tr2, .slice Ap2 pa2.length cp2, .string ta2, .string na2, .string wh2, .int .i64 st2, .string te2] 40)) = .ok (.string ⟨d.toArray⟩) ((w.alloc (.cells #[.int .i64 k, .slice Ad d.length cd, .slice Ae en.length ce, .string tr, .slice Ap pa.length cp, .string ta, .string na, .string wh, .int .i64 st, .string te] 40)).alloc (.cells #[.int .i64 k2, .slice Ad2 d2.length cd2, .slice Ae2 en2.length ce2, .string tr2, .slice Ap2 pa2.length cp2, .string ta2, .string na2, .string wh2, .int .i64 st2, .string te2] 40)) := conv8f (hd.alive hb)
  have hv2 : (convert 36 9 (.slice Ad2 d2.length cd2)).run Tryz.prog ((w.alloc (.cells #[.int .i64 k, .slice Ad d.length cd, .slice Ae en.length ce, .string tr, .slice Ap pa.length cp, .string ta, .string na, .string wh, .int .i64 st, .string te] 40)).alloc (.cells #[.int .i64 k2, .slice Ad2 d2.length cd2, .slice Ae2 en2.length ce2, .string tr2, .slice Ap2 pa2.length cp2, .string ta2, .string na2, .string wh2, .int .i64 st2, .string te2] 40)) = .ok (.string ⟨d2.toArray⟩) ((w.alloc (.cells #[.int .i64 k, .slice Ad d.length cd, .slice Ae en.length ce, .string tr, .slice Ap pa.length cp, .string ta, .string na, .string wh, .int .i64 st, .string te] 40)).alloc (.cells #[.int .i64 k2, .slice Ad2 d2.length cd2, .slice Ae2 en2.length ce2, .string tr2, .slice Ap2 pa2.length cp2, .string ta2, .string na2, .string wh2, .int .i64 st2, .string te2] 40)) := conv8f (hd2.alive hb)
  have re := he.below hb
  have re2 := he2.below hb
  have rp := hp.below hb
  have rp2 := hp2.below hb
  have g0 : (k == k2) = false := beq_eq_false_iff_ne.2 h0
  have HP : Hid (¬ (k = k2 ∧ d = d2 ∧ en = en2 ∧ tr = tr2 ∧ pa = pa2 ∧ ta = ta2 ∧ na = na2 ∧ wh = wh2 ∧ st = st2 ∧ te = te2)) := fun h => h0 h.1
  clear hd hd2 he he2 hp hp2 h0
  go_enter Tryz.func158, Tryz.ntmps158
  go_wp2_with (fail)
  go_ret
  exact ⟨false, rfl, by simp [HP.out], by first | exact hb | exact hb.drewN' _ | exact (hb.drewN' _).drewN' _⟩

set_option maxRecDepth 100000 in
set_option maxHeartbeats 4000000 in
theorem same_1 (k : Int) (Ad : Option Addr) (d : List UInt8) (cd : Nat) (Ae : Option Addr) (en : List Ent) (ce : Nat) (tr : ByteArray) (Ap : Option Addr) (pa : List ByteArray) (cp : Nat) (ta na wh : ByteArray) (st : Int) (te : ByteArray) (k2 : Int) (Ad2 : Option Addr) (d2 : List UInt8) (cd2 : Nat) (Ae2 : Option Addr) (en2 : List Ent) (ce2 : Nat) (tr2 : ByteArray) (Ap2 : Option Addr) (pa2 : List ByteArray) (cp2 : Nat) (ta2 na2 wh2 : ByteArray) (st2 : Int) (te2 : ByteArray) (w : World) (hd : Rd w w.heap.size 1 Ad d.length (bc d)) (he : Rd w w.heap.size 3 Ae en.length (ec en)) (hp : Rd w w.heap.size 1 Ap pa.length (pc pa)) (hel : en.length ≤ 140737488355328) (hpl : pa.length ≤ 140737488355328) (hd2 : Rd w w.heap.size 1 Ad2 d2.length (bc d2)) (he2 : Rd w w.heap.size 3 Ae2 en2.length (ec en2)) (hp2 : Rd w w.heap.size 1 Ap2 pa2.length (pc pa2)) (hel2 : en2.length ≤ 140737488355328) (hpl2 : pa2.length ≤ 140737488355328) (h0 : k = k2) (h1 : ¬ (d = d2)) :
    Calls Tryz.prog 158 #[.agg #[.int .i64 k, .slice Ad d.length cd, .slice Ae en.length ce, .string tr, .slice Ap pa.length cp, .string ta, .string na, .string wh, .int .i64 st, .string te], .agg #[.int .i64 k2, .slice Ad2 d2.length cd2, .slice Ae2 en2.length ce2, .string tr2, .slice Ap2 pa2.length cp2, .string ta2, .string na2, .string wh2, .int .i64 st2, .string te2]] w (RetEqB (k = k2 ∧ d = d2 ∧ en = en2 ∧ tr = tr2 ∧ pa = pa2 ∧ ta = ta2 ∧ na = na2 ∧ wh = wh2 ∧ st = st2 ∧ te = te2) w) := by
  have hb : Below w.heap.size w ((w.alloc (.cells #[.int .i64 k, .slice Ad d.length cd, .slice Ae en.length ce, .string tr, .slice Ap pa.length cp, .string ta, .string na, .string wh, .int .i64 st, .string te] 40)).alloc (.cells #[.int .i64 k2, .slice Ad2 d2.length cd2, .slice Ae2 en2.length ce2, .string tr2, .slice Ap2 pa2.length cp2, .string ta2, .string na2, .string wh2, .int .i64 st2, .string te2] 40)) := ((Below.refl _ _).alloc (Nat.le_refl _) _).alloc (by simp) _
  have hv1 : (convert 36 9 (.slice Ad d.length cd)).run Tryz.prog ((w.alloc (.cells #[.int .i64 k, .slice Ad d.length cd, .slice Ae en.length ce, .string tr, .slice Ap pa.length cp, .string ta, .string na, .string wh, .int .i64 st, .string te] 40)).alloc (.cells #[.int .i64 k2, .slice Ad2 d2.length cd2, .slice Ae2 en2.length ce2, .string tr2, .slice Ap2 pa2.length cp2, .string ta2, .string na2, .string wh2, .int .i64 st2, .string te2] 40)) = .ok (.string ⟨d.toArray⟩) ((w.alloc (.cells #[.int .i64 k, .slice Ad d.length cd, .slice Ae en.length ce, .string tr, .slice Ap pa.length cp, .string ta, .string na, .string wh, .int .i64 st, .string te] 40)).alloc (.cells #[.int .i64 k2, .slice Ad2 d2.length cd2, .slice Ae2 en2.length ce2, .string tr2, .slice Ap2 pa2.length cp2, .string ta2, .string na2, .string wh2, .int .i64 st2, .string te2] 40)) := conv8f (hd.alive hb)
  have hv2 : (convert 36 9 (.slice Ad2 d2.length cd2)).run Tryz.prog ((w.alloc (.cells #[.int .i64 k, .slice Ad d.length cd, .slice Ae en.length ce, .string tr, .slice Ap pa.length cp, .string ta, .string na, .string wh, .int .i64 st, .string te] 40)).alloc (.cells #[.int .i64 k2, .slice Ad2 d2.length cd2, .slice Ae2 en2.length ce2, .string tr2, .slice Ap2 pa2.length cp2, .string ta2, .string na2, .string wh2, .int .i64 st2, .string te2] 40)) = .ok (.string ⟨d2.toArray⟩) ((w.alloc (.cells #[.int .i64 k, .slice Ad d.length cd, .slice Ae en.length ce, .string tr, .slice Ap pa.length cp, .string ta, .string na, .string wh, .int .i64 st, .string te] 40)).alloc (.cells #[.int .i64 k2, .slice Ad2 d2.length cd2, .slice Ae2 en2.length ce2, .string tr2, .slice Ap2 pa2.length cp2, .string ta2, .string na2, .string wh2, .int .i64 st2, .string te2] 40)) := conv8f (hd2.alive hb)
  have re := he.below hb
  have re2 := he2.below hb
  have rp := hp.below hb
  have rp2 := hp2.below hb
  have g0 : (k == k2) = true := beq_iff_eq.2 h0
  have g1 : (d == d2) = false := beq_eq_false_iff_ne.2 h1
  have HP : Hid (¬ (k = k2 ∧ d = d2 ∧ en = en2 ∧ tr = tr2 ∧ pa = pa2 ∧ ta = ta2 ∧ na = na2 ∧ wh = wh2 ∧ st = st2 ∧ te = te2)) := fun h => h1 h.2.1
  clear hd hd2 he he2 hp hp2 h0 h1
  go_enter Tryz.func158, Tryz.ntmps158
  go_wp2_with (fail)
  go_ret
  exact ⟨false, rfl, by simp [HP.out], by first | exact hb | exact hb.drewN' _ | exact (hb.drewN' _).drewN' _⟩

set_option maxRecDepth 100000 in
set_option maxHeartbeats 4000000 in
theorem same_2 (k : Int) (Ad : Option Addr) (d : List UInt8) (cd : Nat) (Ae : Option Addr) (en : List Ent) (ce : Nat) (tr : ByteArray) (Ap : Option Addr) (pa : List ByteArray) (cp : Nat) (ta na wh : ByteArray) (st : Int) (te : ByteArray) (k2 : Int) (Ad2 : Option Addr) (d2 : List UInt8) (cd2 : Nat) (Ae2 : Option Addr) (en2 : List Ent) (ce2 : Nat) (tr2 : ByteArray) (Ap2 : Option Addr) (pa2 : List ByteArray) (cp2 : Nat) (ta2 na2 wh2 : ByteArray) (st2 : Int) (te2 : ByteArray) (w : World) (hd : Rd w w.heap.size 1 Ad d.length (bc d)) (he : Rd w w.heap.size 3 Ae en.length (ec en)) (hp : Rd w w.heap.size 1 Ap pa.length (pc pa)) (hel : en.length ≤ 140737488355328) (hpl : pa.length ≤ 140737488355328) (hd2 : Rd w w.heap.size 1 Ad2 d2.length (bc d2)) (he2 : Rd w w.heap.size 3 Ae2 en2.length (ec en2)) (hp2 : Rd w w.heap.size 1 Ap2 pa2.length (pc pa2)) (hel2 : en2.length ≤ 140737488355328) (hpl2 : pa2.length ≤ 140737488355328) (h0 : k = k2) (h1 : d = d2) (h2 : ¬ (en = en2)) :
    Calls Tryz.prog 158 #[.agg #[.int .i64 k, .slice Ad d.length cd, .slice Ae en.length ce, .string tr, .slice Ap pa.length cp, .string ta, .string na, .string wh, .int .i64 st, .string te], .agg #[.int .i64 k2, .slice Ad2 d2.length cd2, .slice Ae2 en2.length ce2, .string tr2, .slice Ap2 pa2.length cp2, .string ta2, .string na2, .string wh2, .int .i64 st2, .string te2]] w (RetEqB (k = k2 ∧ d = d2 ∧ en = en2 ∧ tr = tr2 ∧ pa = pa2 ∧ ta = ta2 ∧ na = na2 ∧ wh = wh2 ∧ st = st2 ∧ te = te2) w) := by
  have hb : Below w.heap.size w ((w.alloc (.cells #[.int .i64 k, .slice Ad d.length cd, .slice Ae en.length ce, .string tr, .slice Ap pa.length cp, .string ta, .string na, .string wh, .int .i64 st, .string te] 40)).alloc (.cells #[.int .i64 k2, .slice Ad2 d2.length cd2, .slice Ae2 en2.length ce2, .string tr2, .slice Ap2 pa2.length cp2, .string ta2, .string na2, .string wh2, .int .i64 st2, .string te2] 40)) := ((Below.refl _ _).alloc (Nat.le_refl _) _).alloc (by simp) _
  have hv1 : (convert 36 9 (.slice Ad d.length cd)).run Tryz.prog ((w.alloc (.cells #[.int .i64 k, .slice Ad d.length cd, .slice Ae en.length ce, .string tr, .slice Ap pa.length cp, .string ta, .string na, .string wh, .int .i64 st, .string te] 40)).alloc (.cells #[.int .i64 k2, .slice Ad2 d2.length cd2, .slice Ae2 en2.length ce2, .string tr2, .slice Ap2 pa2.length cp2, .string ta2, .string na2, .string wh2, .int .i64 st2, .string te2] 40)) = .ok (.string ⟨d.toArray⟩) ((w.alloc (.cells #[.int .i64 k, .slice Ad d.length cd, .slice Ae en.length ce, .string tr, .slice Ap pa.length cp, .string ta, .string na, .string wh, .int .i64 st, .string te] 40)).alloc (.cells #[.int .i64 k2, .slice Ad2 d2.length cd2, .slice Ae2 en2.length ce2, .string tr2, .slice Ap2 pa2.length cp2, .string ta2, .string na2, .string wh2, .int .i64 st2, .string te2] 40)) := conv8f (hd.alive hb)
  have hv2 : (convert 36 9 (.slice Ad2 d2.length cd2)).run Tryz.prog ((w.alloc (.cells #[.int .i64 k, .slice Ad d.length cd, .slice Ae en.length ce, .string tr, .slice Ap pa.length cp, .string ta, .string na, .string wh, .int .i64 st, .string te] 40)).alloc (.cells #[.int .i64 k2, .slice Ad2 d2.length cd2, .slice Ae2 en2.length ce2, .string tr2, .slice Ap2 pa2.length cp2, .string ta2, .string na2, .string wh2, .int .i64 st2, .string te2] 40)) = .ok (.string ⟨d2.toArray⟩) ((w.alloc (.cells #[.int .i64 k, .slice Ad d.length cd, .slice Ae en.length ce, .string tr, .slice Ap pa.length cp, .string ta, .string na, .string wh, .int .i64 st, .string te] 40)).alloc (.cells #[.int .i64 k2, .slice Ad2 d2.length cd2, .slice Ae2 en2.length ce2, .string tr2, .slice Ap2 pa2.length cp2, .string ta2, .string na2, .string wh2, .int .i64 st2, .string te2] 40)) := conv8f (hd2.alive hb)
  have re := he.below hb
  have re2 := he2.below hb
  have rp := hp.below hb
  have rp2 := hp2.below hb
  have g0 : (k == k2) = true := beq_iff_eq.2 h0
  have g1 : (d == d2) = true := beq_iff_eq.2 h1
  have HE : Hid (¬ (en = en2)) := h2
  have HP : Hid (¬ (k = k2 ∧ d = d2 ∧ en = en2 ∧ tr = tr2 ∧ pa = pa2 ∧ ta = ta2 ∧ na = na2 ∧ wh = wh2 ∧ st = st2 ∧ te = te2)) := fun h => h2 h.2.2.1
  clear hd hd2 he he2 hp hp2 h0 h1 h2
  go_enter Tryz.func158, Tryz.ntmps158
  go_wp2_with (first | (go_at_call 227; (with_reducible refine (EqualE_f Ae en ce Ae2 en2 ce2 _ w.heap.size re re2 hel hel2 HE).mono ?_); rintro e w3 ⟨rfl, n3, rfl⟩))
  go_ret
  exact ⟨false, rfl, by simp [HP.out], by first | exact hb | exact hb.drewN' _ | exact (hb.drewN' _).drewN' _⟩

set_option maxRecDepth 100000 in
set_option maxHeartbeats 4000000 in
theorem same_3 (k : Int) (Ad : Option Addr) (d : List UInt8) (cd : Nat) (Ae : Option Addr) (en : List Ent) (ce : Nat) (tr : ByteArray) (Ap : Option Addr) (pa : List ByteArray) (cp : Nat) (ta na wh : ByteArray) (st : Int) (te : ByteArray) (k2 : Int) (Ad2 : Option Addr) (d2 : List UInt8) (cd2 : Nat) (Ae2 : Option Addr) (en2 : List Ent) (ce2 : Nat) (tr2 : ByteArray) (Ap2 : Option Addr) (pa2 : List ByteArray) (cp2 : Nat) (ta2 na2 wh2 : ByteArray) (st2 : Int) (te2 : ByteArray) (w : World) (hd : Rd w w.heap.size 1 Ad d.length (bc d)) (he : Rd w w.heap.size 3 Ae en.length (ec en)) (hp : Rd w w.heap.size 1 Ap pa.length (pc pa)) (hel : en.length ≤ 140737488355328) (hpl : pa.length ≤ 140737488355328) (hd2 : Rd w w.heap.size 1 Ad2 d2.length (bc d2)) (he2 : Rd w w.heap.size 3 Ae2 en2.length (ec en2)) (hp2 : Rd w w.heap.size 1 Ap2 pa2.length (pc pa2)) (hel2 : en2.length ≤ 140737488355328) (hpl2 : pa2.length ≤ 140737488355328) (h0 : k = k2) (h1 : d = d2) (h2 : en = en2) (h3 : ¬ (tr = tr2)) :
    Calls Tryz.prog 158 #[.agg #[.int .i64 k, .slice Ad d.length cd, .slice Ae en.length ce, .string tr, .slice Ap pa.length cp, .string ta, .string na, .string wh, .int .i64 st, .string te], .agg #[.int .i64 k2, .slice Ad2 d2.length cd2, .slice Ae2 en2.length ce2, .string tr2, .slice Ap2 pa2.length cp2, .string ta2, .string na2, .string wh2, .int .i64 st2, .string te2]] w (RetEqB (k = k2 ∧ d = d2 ∧ en = en2 ∧ tr = tr2 ∧ pa = pa2 ∧ ta = ta2 ∧ na = na2 ∧ wh = wh2 ∧ st = st2 ∧ te = te2) w) := by
  have hb : Below w.heap.size w ((w.alloc (.cells #[.int .i64 k, .slice Ad d.length cd, .slice Ae en.length ce, .string tr, .slice Ap pa.length cp, .string ta, .string na, .string wh, .int .i64 st, .string te] 40)).alloc (.cells #[.int .i64 k2, .slice Ad2 d2.length cd2, .slice Ae2 en2.length ce2, .string tr2, .slice Ap2 pa2.length cp2, .string ta2, .string na2, .string wh2, .int .i64 st2, .string te2] 40)) := ((Below.refl _ _).alloc (Nat.le_refl _) _).alloc (by simp) _
  have hv1 : (convert 36 9 (.slice Ad d.length cd)).run Tryz.prog ((w.alloc (.cells #[.int .i64 k, .slice Ad d.length cd, .slice Ae en.length ce, .string tr, .slice Ap pa.length cp, .string ta, .string na, .string wh, .int .i64 st, .string te] 40)).alloc (.cells #[.int .i64 k2, .slice Ad2 d2.length cd2, .slice Ae2 en2.length ce2, .string tr2, .slice Ap2 pa2.length cp2, .string ta2, .string na2, .string wh2, .int .i64 st2, .string te2] 40)) = .ok (.string ⟨d.toArray⟩) ((w.alloc (.cells #[.int .i64 k, .slice Ad d.length cd, .slice Ae en.length ce, .string tr, .slice Ap pa.length cp, .string ta, .string na, .string wh, .int .i64 st, .string te] 40)).alloc (.cells #[.int .i64 k2, .slice Ad2 d2.length cd2, .slice Ae2 en2.length ce2, .string tr2, .slice Ap2 pa2.length cp2, .string ta2, .string na2, .string wh2, .int .i64 st2, .string te2] 40)) := conv8f (hd.alive hb)
  have hv2 : (convert 36 9 (.slice Ad2 d2.length cd2)).run Tryz.prog ((w.alloc (.cells #[.int .i64 k, .slice Ad d.length cd, .slice Ae en.length ce, .string tr, .slice Ap pa.length cp, .string ta, .string na, .string wh, .int .i64 st, .string te] 40)).alloc (.cells #[.int .i64 k2, .slice Ad2 d2.length cd2, .slice Ae2 en2.length ce2, .string tr2, .slice Ap2 pa2.length cp2, .string ta2, .string na2, .string wh2, .int .i64 st2, .string te2] 40)) = .ok (.string ⟨d2.toArray⟩) ((w.alloc (.cells #[.int .i64 k, .slice Ad d.length cd, .slice Ae en.length ce, .string tr, .slice Ap pa.length cp, .string ta, .string na, .string wh, .int .i64 st, .string te] 40)).alloc (.cells #[.int .i64 k2, .slice Ad2 d2.length cd2, .slice Ae2 en2.length ce2, .string tr2, .slice Ap2 pa2.length cp2, .string ta2, .string na2, .string wh2, .int .i64 st2, .string te2] 40)) := conv8f (hd2.alive hb)
  have re := he.below hb
  have re2 := he2.below hb
  have rp := hp.below hb
  have rp2 := hp2.below hb
  have g0 : (k == k2) = true := beq_iff_eq.2 h0
  have g1 : (d == d2) = true := beq_iff_eq.2 h1
  have HE : Hid (en = en2) := h2
  have g3 : (tr.toList == tr2.toList) = false := str_ne_b h3
  have HP : Hid (¬ (k = k2 ∧ d = d2 ∧ en = en2 ∧ tr = tr2 ∧ pa = pa2 ∧ ta = ta2 ∧ na = na2 ∧ wh = wh2 ∧ st = st2 ∧ te = te2)) := fun h => h3 h.2.2.2.1
  clear hd hd2 he he2 hp hp2 h0 h1 h2 h3
  go_enter Tryz.func158, Tryz.ntmps158
  go_wp2_with (first | (go_at_call 227; (with_reducible refine (EqualE_t Ae en ce Ae2 en2 ce2 _ w.heap.size re re2 hel hel2 HE).mono ?_); rintro e w3 ⟨rfl, n3, rfl⟩))
  go_ret
  exact ⟨false, rfl, by simp [HP.out], by first | exact hb | exact hb.drewN' _ | exact (hb.drewN' _).drewN' _⟩

set_option maxRecDepth 100000 in
set_option maxHeartbeats 4000000 in
theorem same_4 (k : Int) (Ad : Option Addr) (d : List UInt8) (cd : Nat) (Ae : Option Addr) (en : List Ent) (ce : Nat) (tr : ByteArray) (Ap : Option Addr) (pa : List ByteArray) (cp : Nat) (ta na wh : ByteArray) (st : Int) (te : ByteArray) (k2 : Int) (Ad2 : Option Addr) (d2 : List UInt8) (cd2 : Nat) (Ae2 : Option Addr) (en2 : List Ent) (ce2 : Nat) (tr2 : ByteArray) (Ap2 : Option Addr) (pa2 : List ByteArray) (cp2 : Nat) (ta2 na2 wh2 : ByteArray) (st2 : Int) (te2 : ByteArray) (w : World) (hd : Rd w w.heap.size 1 Ad d.length (bc d)) (he : Rd w w.heap.size 3 Ae en.length (ec en)) (hp : Rd w w.heap.size 1 Ap pa.length (pc pa)) (hel : en.length ≤ 140737488355328) (hpl : pa.length ≤ 140737488355328) (hd2 : Rd w w.heap.size 1 Ad2 d2.length (bc d2)) (he2 : Rd w w.heap.size 3 Ae2 en2.length (ec en2)) (hp2 : Rd w w.heap.size 1 Ap2 pa2.length (pc pa2)) (hel2 : en2.length ≤ 140737488355328) (hpl2 : pa2.length ≤ 140737488355328) (h0 : k = k2) (h1 : d = d2) (h2 : en = en2) (h3 : tr = tr2) (h4 : ¬ (pa = pa2)) :
    Calls Tryz.prog 158 #[.agg #[.int .i64 k, .slice Ad d.length cd, .slice Ae en.length ce, .string tr, .slice Ap pa.length cp, .string ta, .string na, .string wh, .int .i64 st, .string te], .agg #[.int .i64 k2, .slice Ad2 d2.length cd2, .slice Ae2 en2.length ce2, .string tr2, .slice Ap2 pa2.length cp2, .string ta2, .string na2, .string wh2, .int .i64 st2, .string te2]] w (RetEqB (k = k2 ∧ d = d2 ∧ en = en2 ∧ tr = tr2 ∧ pa = pa2 ∧ ta = ta2 ∧ na = na2 ∧ wh = wh2 ∧ st = st2 ∧ te = te2) w) := by
  have hb : Below w.heap.size w ((w.alloc (.cells #[.int .i64 k, .slice Ad d.length cd, .slice Ae en.length ce, .string tr, .slice Ap pa.length cp, .string ta, .string na, .string wh, .int .i64 st, .string te] 40)).alloc (.cells #[.int .i64 k2, .slice Ad2 d2.length cd2, .slice Ae2 en2.length ce2, .string tr2, .slice Ap2 pa2.length cp2, .string ta2, .string na2, .string wh2, .int .i64 st2, .string te2] 40)) := ((Below.refl _ _).alloc (Nat.le_refl _) _).alloc (by simp) _
  have hv1 : (convert 36 9 (.slice Ad d.length cd)).run Tryz.prog ((w.alloc (.cells #[.int .i64 k, .slice Ad d.length cd, .slice Ae en.length ce, .string tr, .slice Ap pa.length cp, .string ta, .string na, .string wh, .int .i64 st, .string te] 40)).alloc (.cells #[.int .i64 k2, .slice Ad2 d2.length cd2, .slice Ae2 en2.length ce2, .string tr2, .slice Ap2 pa2.length cp2, .string ta2, .string na2, .string wh2, .int .i64 st2, .string te2] 40)) = .ok (.string ⟨d.toArray⟩) ((w.alloc (.cells #[.int .i64 k, .slice Ad d.length cd, .slice Ae en.length ce, .string tr, .slice Ap pa.length cp, .string ta, .string na, .string wh, .int .i64 st, .string te] 40)).alloc (.cells #[.int .i64 k2, .slice Ad2 d2.length cd2, .slice Ae2 en2.length ce2, .string tr2, .slice Ap2 pa2.length cp2, .string ta2, .string na2, .string wh2, .int .i64 st2, .string te2] 40)) := conv8f (hd.alive hb)
  have hv2 : (convert 36 9 (.slice Ad2 d2.length cd2)).run Tryz.prog ((w.alloc (.cells #[.int .i64 k, .slice Ad d.length cd, .slice Ae en.length ce, .string tr, .slice Ap pa.length cp, .string ta, .string na, .string wh, .int .i64 st, .string te] 40)).alloc (.cells #[.int .i64 k2, .slice Ad2 d2.length cd2, .slice Ae2 en2.length ce2, .string tr2, .slice Ap2 pa2.length cp2, .string ta2, .string na2, .string wh2, .int .i64 st2, .string te2] 40)) = .ok (.string ⟨d2.toArray⟩) ((w.alloc (.cells #[.int .i64 k, .slice Ad d.length cd, .slice Ae en.length ce, .string tr, .slice Ap pa.length cp, .string ta, .string na, .string wh, .int .i64 st, .string te] 40)).alloc (.cells #[.int .i64 k2, .slice Ad2 d2.length cd2, .slice Ae2 en2.length ce2, .string tr2, .slice Ap2 pa2.length cp2, .string ta2, .string na2, .string wh2, .int .i64 st2, .string te2] 40)) := conv8f (hd2.alive hb)
  have re := he.below hb
  have re2 := he2.below hb
  have rp := hp.below hb
  have rp2 := hp2.below hb
  have g0 : (k == k2) = true := beq_iff_eq.2 h0
  have g1 : (d == d2) = true := beq_iff_eq.2 h1
  have HE : Hid (en = en2) := h2
  have g3 : (tr.toList == tr2.toList) = true := str_eq_b h3
  have HS : Hid (¬ (pa = pa2)) := h4
  have HP : Hid (¬ (k = k2 ∧ d = d2 ∧ en = en2 ∧ tr = tr2 ∧ pa = pa2 ∧ ta = ta2 ∧ na = na2 ∧ wh = wh2 ∧ st = st2 ∧ te = te2)) := fun h => h4 h.2.2.2.2.1
  clear hd hd2 he he2 hp hp2 h0 h1 h2 h3 h4
  go_enter Tryz.func158, Tryz.ntmps158
  go_wp2_with (first | (go_at_call 227; (with_reducible refine (EqualE_t Ae en ce Ae2 en2 ce2 _ w.heap.size re re2 hel hel2 HE).mono ?_); rintro e w3 ⟨rfl, n3, rfl⟩) | (go_at_call 228; have rp3 := rp.drewN n3; have rp32 := rp2.drewN n3; (with_reducible refine (EqualS_f Ap pa cp Ap2 pa2 cp2 _ w.heap.size rp3 rp32 hpl hpl2 HS).mono ?_); rintro e w4 ⟨rfl, n4, rfl⟩))
  go_ret
  exact ⟨false, rfl, by simp [HP.out], by first | exact hb | exact hb.drewN' _ | exact (hb.drewN' _).drewN' _⟩

set_option maxRecDepth 100000 in
set_option maxHeartbeats 4000000 in
theorem same_5 (k : Int) (Ad : Option Addr) (d : List UInt8) (cd : Nat) (Ae : Option Addr) (en : List Ent) (ce : Nat) (tr : ByteArray) (Ap : Option Addr) (pa : List ByteArray) (cp : Nat) (ta na wh : ByteArray) (st : Int) (te : ByteArray) (k2 : Int) (Ad2 : Option Addr) (d2 : List UInt8) (cd2 : Nat) (Ae2 : Option Addr) (en2 : List Ent) (ce2 : Nat) (tr2 : ByteArray) (Ap2 : Option Addr) (pa2 : List ByteArray) (cp2 : Nat) (ta2 na2 wh2 : ByteArray) (st2 : Int) (te2 : ByteArray) (w : World) (hd : Rd w w.heap.size 1 Ad d.length (bc d)) (he : Rd w w.heap.size 3 Ae en.length (ec en)) (hp : Rd w w.heap.size 1 Ap pa.length (pc pa)) (hel : en.length ≤ 140737488355328) (hpl : pa.length ≤ 140737488355328) (hd2 : Rd w w.heap.size 1 Ad2 d2.length (bc d2)) (he2 : Rd w w.heap.size 3 Ae2 en2.length (ec en2)) (hp2 : Rd w w.heap.size 1 Ap2 pa2.length (pc pa2)) (hel2 : en2.length ≤ 140737488355328) (hpl2 : pa2.length ≤ 140737488355328) (h0 : k = k2) (h1 : d = d2) (h2 : en = en2) (h3 : tr = tr2) (h4 : pa = pa2) (h5 : ¬ (ta = ta2)) :
    Calls Tryz.prog 158 #[.agg #[.int .i64 k, .slice Ad d.length cd, .slice Ae en.length ce, .string tr, .slice Ap pa.length cp, .string ta, .string na, .string wh, .int .i64 st, .string te], .agg #[.int .i64 k2, .slice Ad2 d2.length cd2, .slice Ae2 en2.length ce2, .string tr2, .slice Ap2 pa2.length cp2, .string ta2, .string na2, .string wh2, .int .i64 st2, .string te2]] w (RetEqB (k = k2 ∧ d = d2 ∧ en = en2 ∧ tr = tr2 ∧ pa = pa2 ∧ ta = ta2 ∧ na = na2 ∧ wh = wh2 ∧ st = st2 ∧ te = te2) w) := by
  have hb : Below w.heap.size w ((w.alloc (.cells #[.int .i64 k, .slice Ad d.length cd, .slice Ae en.length ce, .string tr, .slice Ap pa.length cp, .string ta, .string na, .string wh, .int .i64 st, .string te] 40)).alloc (.cells #[.int .i64 k2, .slice Ad2 d2.length cd2, .slice Ae2 en2.length ce2, .string tr2, .slice Ap2 pa2.length cp2, .string ta2, .string na2, .string wh2, .int .i64 st2, .string te2] 40)) := ((Below.refl _ _).alloc (Nat.le_refl _) _).alloc (by simp) _
  have hv1 : (convert 36 9 (.slice Ad d.length cd)).run Tryz.prog ((w.alloc (.cells #[.int .i64 k, .slice Ad d.length cd, .slice Ae en.length ce, .string tr, .slice Ap pa.length cp, .string ta, .string na, .string wh, .int .i64 st, .string te] 40)).alloc (.cells #[.int .i64 k2, .slice Ad2 d2.length cd2, .slice Ae2 en2.length ce2, .string tr2, .slice Ap2 pa2.length cp2, .string ta2, .string na2, .string wh2, .int .i64 st2, .string te2] 40)) = .ok (.string ⟨d.toArray⟩) ((w.alloc (.cells #[.int .i64 k, .slice Ad d.length cd, .slice Ae en.length ce, .string tr, .slice Ap pa.length cp, .string ta, .string na, .string wh, .int .i64 st, .string te] 40)).alloc (.cells #[.int .i64 k2, .slice Ad2 d2.length cd2, .slice Ae2 en2.length ce2, .string tr2, .slice Ap2 pa2.length cp2, .string ta2, .string na2, .string wh2, .int .i64 st2, .string te2] 40)) := conv8f (hd.alive hb)
  have hv2 : (convert 36 9 (.slice Ad2 d2.length cd2)).run Tryz.prog ((w.alloc (.cells #[.int .i64 k, .slice Ad d.length cd, .slice Ae en.length ce, .string tr, .slice Ap pa.length cp, .string ta, .string na, .string wh, .int .i64 st, .string te] 40)).alloc (.cells #[.int .i64 k2, .slice Ad2 d2.length cd2, .slice Ae2 en2.length ce2, .string tr2, .slice Ap2 pa2.length cp2, .string ta2, .string na2, .string wh2, .int .i64 st2, .string te2] 40)) = .ok (.string ⟨d2.toArray⟩) ((w.alloc (.cells #[.int .i64 k, .slice Ad d.length cd, .slice Ae en.length ce, .string tr, .slice Ap pa.length cp, .string ta, .string na, .string wh, .int .i64 st, .string te] 40)).alloc (.cells #[.int .i64 k2, .slice Ad2 d2.length cd2, .slice Ae2 en2.length ce2, .string tr2, .slice Ap2 pa2.length cp2, .string ta2, .string na2, .string wh2, .int .i64 st2, .string te2] 40)) := conv8f (hd2.alive hb)
  have re := he.below hb
  have re2 := he2.below hb
  have rp := hp.below hb
  have rp2 := hp2.below hb
  have g0 : (k == k2) = true := beq_iff_eq.2 h0
  have g1 : (d == d2) = true := beq_iff_eq.2 h1
  have HE : Hid (en = en2) := h2
  have g3 : (tr.toList == tr2.toList) = true := str_eq_b h3
  have HS : Hid (pa = pa2) := h4
  have g5 : (ta.toList == ta2.toList) = false := str_ne_b h5
  have HP : Hid (¬ (k = k2 ∧ d = d2 ∧ en = en2 ∧ tr = tr2 ∧ pa = pa2 ∧ ta = ta2 ∧ na = na2 ∧ wh = wh2 ∧ st = st2 ∧ te = te2)) := fun h => h5 h.2.2.2.2.2.1
  clear hd hd2 he he2 hp hp2 h0 h1 h2 h3 h4 h5
  go_enter Tryz.func158, Tryz.ntmps158
  go_wp2_with (first | (go_at_call 227; (with_reducible refine (EqualE_t Ae en ce Ae2 en2 ce2 _ w.heap.size re re2 hel hel2 HE).mono ?_); rintro e w3 ⟨rfl, n3, rfl⟩) | (go_at_call 228; have rp3 := rp.drewN n3; have rp32 := rp2.drewN n3; (with_reducible refine (EqualS_t Ap pa cp Ap2 pa2 cp2 _ w.heap.size rp3 rp32 hpl hpl2 HS).mono ?_); rintro e w4 ⟨rfl, n4, rfl⟩))
  go_ret
  exact ⟨false, rfl, by simp [HP.out], by first | exact hb | exact hb.drewN' _ | exact (hb.drewN' _).drewN' _⟩

set_option maxRecDepth 100000 in
set_option maxHeartbeats 4000000 in
theorem same_6 (k : Int) (Ad : Option Addr) (d : List UInt8) (cd : Nat) (Ae : Option Addr) (en : List Ent) (ce : Nat) (tr : ByteArray) (Ap : Option Addr) (pa : List ByteArray) (cp : Nat) (ta na wh : ByteArray) (st : Int) (te : ByteArray) (k2 : Int) (Ad2 : Option Addr) (d2 : List UInt8) (cd2 : Nat) (Ae2 : Option Addr) (en2 : List Ent) (ce2 : Nat) (tr2 : ByteArray) (Ap2 : Option Addr) (pa2 : List ByteArray) (cp2 : Nat) (ta2 na2 wh2 : ByteArray) (st2 : Int) (te2 : ByteArray) (w : World) (hd : Rd w w.heap.size 1 Ad d.length (bc d)) (he : Rd w w.heap.size 3 Ae en.length (ec en)) (hp : Rd w w.heap.size 1 Ap pa.length (pc pa)) (hel : en.length ≤ 140737488355328) (hpl : pa.length ≤ 140737488355328) (hd2 : Rd w w.heap.size 1 Ad2 d2.length (bc d2)) (he2 : Rd w w.heap.size 3 Ae2 en2.length (ec en2)) (hp2 : Rd w w.heap.size 1 Ap2 pa2.length (pc pa2)) (hel2 : en2.length ≤ 140737488355328) (hpl2 : pa2.length ≤ 140737488355328) (h0 : k = k2) (h1 : d = d2) (h2 : en = en2) (h3 : tr = tr2) (h4 : pa = pa2) (h5 : ta = ta2) (h6 : ¬ (na = na2)) :
    Calls Tryz.prog 158 #[.agg #[.int .i64 k, .slice Ad d.length cd, .slice Ae en.length ce, .string tr, .slice Ap pa.length cp, .string ta, .string na, .string wh, .int .i64 st, .string te], .agg #[.int .i64 k2, .slice Ad2 d2.length cd2, .slice Ae2 en2.length ce2, .string tr2, .slice Ap2 pa2.length cp2, .string ta2, .string na2, .string wh2, .int .i64 st2, .string te2]] w (RetEqB (k = k2 ∧ d = d2 ∧ en = en2 ∧ tr = tr2 ∧ pa = pa2 ∧ ta = ta2 ∧ na = na2 ∧ wh = wh2 ∧ st = st2 ∧ te = te2) w) := by
  have hb : Below w.heap.size w ((w.alloc (.cells #[.int .i64 k, .slice Ad d.length cd, .slice Ae en.length ce, .string tr, .slice Ap pa.length cp, .string ta, .string na, .string wh, .int .i64 st, .string te] 40)).alloc (.cells #[.int .i64 k2, .slice Ad2 d2.length cd2, .slice Ae2 en2.length ce2, .string tr2, .slice Ap2 pa2.length cp2, .string ta2, .string na2, .string wh2, .int .i64 st2, .string te2] 40)) := ((Below.refl _ _).alloc (Nat.le_refl _) _).alloc (by simp) _
  have hv1 : (convert 36 9 (.slice Ad d.length cd)).run Tryz.prog ((w.alloc (.cells #[.int .i64 k, .slice Ad d.length cd, .slice Ae en.length ce, .string tr, .slice Ap pa.length cp, .string ta, .string na, .string wh, .int .i64 st, .string te] 40)).alloc (.cells #[.int .i64 k2, .slice Ad2 d2.length cd2, .slice Ae2 en2.length ce2, .string tr2, .slice Ap2 pa2.length cp2, .string ta2, .string na2, .string wh2, .int .i64 st2, .string te2] 40)) = .ok (.string ⟨d.toArray⟩) ((w.alloc (.cells #[.int .i64 k, .slice Ad d.length cd, .slice Ae en.length ce, .string tr, .slice Ap pa.length cp, .string ta, .string na, .string wh, .int .i64 st, .string te] 40)).alloc (.cells #[.int .i64 k2, .slice Ad2 d2.length cd2, .slice Ae2 en2.length ce2, .string tr2, .slice Ap2 pa2.length cp2, .string ta2, .string na2, .string wh2, .int .i64 st2, .string te2] 40)) := conv8f (hd.alive hb)
  have hv2 : (convert 36 9 (.slice Ad2 d2.length cd2)).run Tryz.prog ((w.alloc (.cells #[.int .i64 k, .slice Ad d.length cd, .slice Ae en.length ce, .string tr, .slice Ap pa.length cp, .string ta, .string na, .string wh, .int .i64 st, .string te] 40)).alloc (.cells #[.int .i64 k2, .slice Ad2 d2.length cd2, .slice Ae2 en2.length ce2, .string tr2, .slice Ap2 pa2.length cp2, .string ta2, .string na2, .string wh2, .int .i64 st2, .string te2] 40)) = .ok (.string ⟨d2.toArray⟩) ((w.alloc (.cells #[.int .i64 k, .slice Ad d.length cd, .slice Ae en.length ce, .string tr, .slice Ap pa.length cp, .string ta, .string na, .string wh, .int .i64 st, .string te] 40)).alloc (.cells #[.int .i64 k2, .slice Ad2 d2.length cd2, .slice Ae2 en2.length ce2, .string tr2, .slice Ap2 pa2.length cp2, .string ta2, .string na2, .string wh2, .int .i64 st2, .string te2] 40)) := conv8f (hd2.alive hb)
  have re := he.below hb
  have re2 := he2.below hb
  have rp := hp.below hb
  have rp2 := hp2.below hb
  have g0 : (k == k2) = true := beq_iff_eq.2 h0
  have g1 : (d == d2) = true := beq_iff_eq.2 h1
  have HE : Hid (en = en2) := h2
  have g3 : (tr.toList == tr2.toList) = true := str_eq_b h3
  have HS : Hid (pa = pa2) := h4
  have g5 : (ta.toList == ta2.toList) = true := str_eq_b h5
  have g6 : (na.toList == na2.toList) = false := str_ne_b h6
  have HP : Hid (¬ (k = k2 ∧ d = d2 ∧ en = en2 ∧ tr = tr2 ∧ pa = pa2 ∧ ta = ta2 ∧ na = na2 ∧ wh = wh2 ∧ st = st2 ∧ te = te2)) := fun h => h6 h.2.2.2.2.2.2.1
  clear hd hd2 he he2 hp hp2 h0 h1 h2 h3 h4 h5 h6
  go_enter Tryz.func158, Tryz.ntmps158
  go_wp2_with (first | (go_at_call 227; (with_reducible refine (EqualE_t Ae en ce Ae2 en2 ce2 _ w.heap.size re re2 hel hel2 HE).mono ?_); rintro e w3 ⟨rfl, n3, rfl⟩) | (go_at_call 228; have rp3 := rp.drewN n3; have rp32 := rp2.drewN n3; (with_reducible refine (EqualS_t Ap pa cp Ap2 pa2 cp2 _ w.heap.size rp3 rp32 hpl hpl2 HS).mono ?_); rintro e w4 ⟨rfl, n4, rfl⟩))
  go_ret
  exact ⟨false, rfl, by simp [HP.out], by first | exact hb | exact hb.drewN' _ | exact (hb.drewN' _).drewN' _⟩

set_option maxRecDepth 100000 in
set_option maxHeartbeats 4000000 in
theorem same_7 (k : Int) (Ad : Option Addr) (d : List UInt8) (cd : Nat) (Ae : Option Addr) (en : List Ent) (ce : Nat) (tr : ByteArray) (Ap : Option Addr) (pa : List ByteArray) (cp : Nat) (ta na wh : ByteArray) (st : Int) (te : ByteArray) (k2 : Int) (Ad2 : Option Addr) (d2 : List UInt8) (cd2 : Nat) (Ae2 : Option Addr) (en2 : List Ent) (ce2 : Nat) (tr2 : ByteArray) (Ap2 : Option Addr) (pa2 : List ByteArray) (cp2 : Nat) (ta2 na2 wh2 : ByteArray) (st2 : Int) (te2 : ByteArray) (w : World) (hd : Rd w w.heap.size 1 Ad d.length (bc d)) (he : Rd w w.heap.size 3 Ae en.length (ec en)) (hp : Rd w w.heap.size 1 Ap pa.length (pc pa)) (hel : en.length ≤ 140737488355328) (hpl : pa.length ≤ 140737488355328) (hd2 : Rd w w.heap.size 1 Ad2 d2.length (bc d2)) (he2 : Rd w w.heap.size 3 Ae2 en2.length (ec en2)) (hp2 : Rd w w.heap.size 1 Ap2 pa2.length (pc pa2)) (hel2 : en2.length ≤ 140737488355328) (hpl2 : pa2.length ≤ 140737488355328) (h0 : k = k2) (h1 : d = d2) (h2 : en = en2) (h3 : tr = tr2) (h4 : pa = pa2) (h5 : ta = ta2) (h6 : na = na2) (h7 : ¬ (wh = wh2)) :
    Calls Tryz.prog 158 #[.agg #[.int .i64 k, .slice Ad d.length cd, .slice Ae en.length ce, .string tr, .slice Ap pa.length cp, .string ta, .string na, .string wh, .int .i64 st, .string te], .agg #[.int .i64 k2, .slice Ad2 d2.length cd2, .slice Ae2 en2.length ce2, .string tr2, .slice Ap2 pa2.length cp2, .string ta2, .string na2, .string wh2, .int .i64 st2, .string te2]] w (RetEqB (k = k2 ∧ d = d2 ∧ en = en2 ∧ tr = tr2 ∧ pa = pa2 ∧ ta = ta2 ∧ na = na2 ∧ wh = wh2 ∧ st = st2 ∧ te = te2) w) := by
  have hb : Below w.heap.size w ((w.alloc (.cells #[.int .i64 k, .slice Ad d.length cd, .slice Ae en.length ce, .string tr, .slice Ap pa.length cp, .string ta, .string na, .string wh, .int .i64 st, .string te] 40)).alloc (.cells #[.int .i64 k2, .slice Ad2 d2.length cd2, .slice Ae2 en2.length ce2, .string tr2, .slice Ap2 pa2.length cp2, .string ta2, .string na2, .string wh2, .int .i64 st2, .string te2] 40)) := ((Below.refl _ _).alloc (Nat.le_refl _) _).alloc (by simp) _
  have hv1 : (convert 36 9 (.slice Ad d.length cd)).run Tryz.prog ((w.alloc (.cells #[.int .i64 k, .slice Ad d.length cd, .slice Ae en.length ce, .string tr, .slice Ap pa.length cp, .string ta, .string na, .string wh, .int .i64 st, .string te] 40)).alloc (.cells #[.int .i64 k2, .slice Ad2 d2.length cd2, .slice Ae2 en2.length ce2, .string tr2, .slice Ap2 pa2.length cp2, .string ta2, .string na2, .string wh2, .int .i64 st2, .string te2] 40)) = .ok (.string ⟨d.toArray⟩) ((w.alloc (.cells #[.int .i64 k, .slice Ad d.length cd, .slice Ae en.length ce, .string tr, .slice Ap pa.length cp, .string ta, .string na, .string wh, .int .i64 st, .string te] 40)).alloc (.cells #[.int .i64 k2, .slice Ad2 d2.length cd2, .slice Ae2 en2.length ce2, .string tr2, .slice Ap2 pa2.length cp2, .string ta2, .string na2, .string wh2, .int .i64 st2, .string te2] 40)) := conv8f (hd.alive hb)
  have hv2 : (convert 36 9 (.slice Ad2 d2.length cd2)).run Tryz.prog ((w.alloc (.cells #[.int .i64 k, .slice Ad d.length cd, .slice Ae en.length ce, .string tr, .slice Ap pa.length cp, .string ta, .string na, .string wh, .int .i64 st, .string te] 40)).alloc (.cells #[.int .i64 k2, .slice Ad2 d2.length cd2, .slice Ae2 en2.length ce2, .string tr2, .slice Ap2 pa2.length cp2, .string ta2, .string na2, .string wh2, .int .i64 st2, .string te2] 40)) = .ok (.string ⟨d2.toArray⟩) ((w.alloc (.cells #[.int .i64 k, .slice Ad d.length cd, .slice Ae en.length ce, .string tr, .slice Ap pa.length cp, .string ta, .string na, .string wh, .int .i64 st, .string te] 40)).alloc (.cells #[.int .i64 k2, .slice Ad2 d2.length cd2, .slice Ae2 en2.length ce2, .string tr2, .slice Ap2 pa2.length cp2, .string ta2, .string na2, .string wh2, .int .i64 st2, .string te2] 40)) := conv8f (hd2.alive hb)
  have re := he.below hb
  have re2 := he2.below hb
  have rp := hp.below hb
  have rp2 := hp2.below hb
  have g0 : (k == k2) = true := beq_iff_eq.2 h0
  have g1 : (d == d2) = true := beq_iff_eq.2 h1
  have HE : Hid (en = en2) := h2
  have g3 : (tr.toList == tr2.toList) = true := str_eq_b h3
  have HS : Hid (pa = pa2) := h4
  have g5 : (ta.toList == ta2.toList) = true := str_eq_b h5
  have g6 : (na.toList == na2.toList) = true := str_eq_b h6
  have g7 : (wh.toList == wh2.toList) = false := str_ne_b h7
  have HP : Hid (¬ (k = k2 ∧ d = d2 ∧ en = en2 ∧ tr = tr2 ∧ pa = pa2 ∧ ta = ta2 ∧ na = na2 ∧ wh = wh2 ∧ st = st2 ∧ te = te2)) := fun h => h7 h.2.2.2.2.2.2.2.1
  clear hd hd2 he he2 hp hp2 h0 h1 h2 h3 h4 h5 h6 h7
  go_enter Tryz.func158, Tryz.ntmps158
  go_wp2_with (first | (go_at_call 227; (with_reducible refine (EqualE_t Ae en ce Ae2 en2 ce2 _ w.heap.size re re2 hel hel2 HE).mono ?_); rintro e w3 ⟨rfl, n3, rfl⟩) | (go_at_call 228; have rp3 := rp.drewN n3; have rp32 := rp2.drewN n3; (with_reducible refine (EqualS_t Ap pa cp Ap2 pa2 cp2 _ w.heap.size rp3 rp32 hpl hpl2 HS).mono ?_); rintro e w4 ⟨rfl, n4, rfl⟩))
  go_ret
  exact ⟨false, rfl, by simp [HP.out], by first | exact hb | exact hb.drewN' _ | exact (hb.drewN' _).drewN' _⟩

set_option maxRecDepth 100000 in
set_option maxHeartbeats 4000000 in
theorem same_8 (k : Int) (Ad : Option Addr) (d : List UInt8) (cd : Nat) (Ae : Option Addr) (en : List Ent) (ce : Nat) (tr : ByteArray) (Ap : Option Addr) (pa : List ByteArray) (cp : Nat) (ta na wh : ByteArray) (st : Int) (te : ByteArray) (k2 : Int) (Ad2 : Option Addr) (d2 : List UInt8) (cd2 : Nat) (Ae2 : Option Addr) (en2 : List Ent) (ce2 : Nat) (tr2 : ByteArray) (Ap2 : Option Addr) (pa2 : List ByteArray) (cp2 : Nat) (ta2 na2 wh2 : ByteArray) (st2 : Int) (te2 : ByteArray) (w : World) (hd : Rd w w.heap.size 1 Ad d.length (bc d)) (he : Rd w w.heap.size 3 Ae en.length (ec en)) (hp : Rd w w.heap.size 1 Ap pa.length (pc pa)) (hel : en.length ≤ 140737488355328) (hpl : pa.length ≤ 140737488355328) (hd2 : Rd w w.heap.size 1 Ad2 d2.length (bc d2)) (he2 : Rd w w.heap.size 3 Ae2 en2.length (ec en2)) (hp2 : Rd w w.heap.size 1 Ap2 pa2.length (pc pa2)) (hel2 : en2.length ≤ 140737488355328) (hpl2 : pa2.length ≤ 140737488355328) (h0 : k = k2) (h1 : d = d2) (h2 : en = en2) (h3 : tr = tr2) (h4 : pa = pa2) (h5 : ta = ta2) (h6 : na = na2) (h7 : wh = wh2) (h8 : ¬ (st = st2)) :
    Calls Tryz.prog 158 #[.agg #[.int .i64 k, .slice Ad d.length cd, .slice Ae en.length ce, .string tr, .slice Ap pa.length cp, .string ta, .string na, .string wh, .int .i64 st, .string te], .agg #[.int .i64 k2, .slice Ad2 d2.length cd2, .slice Ae2 en2.length ce2, .string tr2, .slice Ap2 pa2.length cp2, .string ta2, .string na2, .string wh2, .int .i64 st2, .string te2]] w (RetEqB (k = k2 ∧ d = d2 ∧ en = en2 ∧ tr = tr2 ∧ pa = pa2 ∧ ta = ta2 ∧ na = na2 ∧ wh = wh2 ∧ st = st2 ∧ te = te2) w) := by
  have hb : Below w.heap.size w ((w.alloc (.cells #[.int .i64 k, .slice Ad d.length cd, .slice Ae en.length ce, .string tr, .slice Ap pa.length cp, .string ta, .string na, .string wh, .int .i64 st, .string te] 40)).alloc (.cells #[.int .i64 k2, .slice Ad2 d2.length cd2, .slice Ae2 en2.length ce2, .string tr2, .slice Ap2 pa2.length cp2, .string ta2, .string na2, .string wh2, .int .i64 st2, .string te2] 40)) := ((Below.refl _ _).alloc (Nat.le_refl _) _).alloc (by simp) _
  have hv1 : (convert 36 9 (.slice Ad d.length cd)).run Tryz.prog ((w.alloc (.cells #[.int .i64 k, .slice Ad d.length cd, .slice Ae en.length ce, .string tr, .slice Ap pa.length cp, .string ta, .string na, .string wh, .int .i64 st, .string te] 40)).alloc (.cells #[.int .i64 k2, .slice Ad2 d2.length cd2, .slice Ae2 en2.length ce2, .string tr2, .slice Ap2 pa2.length cp2, .string ta2, .string na2, .string wh2, .int .i64 st2, .string te2] 40)) = .ok (.string ⟨d.toArray⟩) ((w.alloc (.cells #[.int .i64 k, .slice Ad d.length cd, .slice Ae en.length ce, .string tr, .slice Ap pa.length cp, .string ta, .string na, .string wh, .int .i64 st, .string te] 40)).alloc (.cells #[.int .i64 k2, .slice Ad2 d2.length cd2, .slice Ae2 en2.length ce2, .string tr2, .slice Ap2 pa2.length cp2, .string ta2, .string na2, .string wh2, .int .i64 st2, .string te2] 40)) := conv8f (hd.alive hb)
  have hv2 : (convert 36 9 (.slice Ad2 d2.length cd2)).run Tryz.prog ((w.alloc (.cells #[.int .i64 k, .slice Ad d.length cd, .slice Ae en.length ce, .string tr, .slice Ap pa.length cp, .string ta, .string na, .string wh, .int .i64 st, .string te] 40)).alloc (.cells #[.int .i64 k2, .slice Ad2 d2.length cd2, .slice Ae2 en2.length ce2, .string tr2, .slice Ap2 pa2.length cp2, .string ta2, .string na2, .string wh2, .int .i64 st2, .string te2] 40)) = .ok (.string ⟨d2.toArray⟩) ((w.alloc (.cells #[.int .i64 k, .slice Ad d.length cd, .slice Ae en.length ce, .string tr, .slice Ap pa.length cp, .string ta, .string na, .string wh, .int .i64 st, .string te] 40)).alloc (.cells #[.int .i64 k2, .slice Ad2 d2.length cd2, .slice Ae2 en2.length ce2, .string tr2, .slice Ap2 pa2.length cp2, .string ta2, .string na2, .string wh2, .int .i64 st2, .string te2] 40)) := conv8f (hd2.alive hb)
  have re := he.below hb
  have re2 := he2.below hb
  have rp := hp.below hb
  have rp2 := hp2.below hb
  have g0 : (k == k2) = true := beq_iff_eq.2 h0
  have g1 : (d == d2) = true := beq_iff_eq.2 h1
  have HE : Hid (en = en2) := h2
  have g3 : (tr.toList == tr2.toList) = true := str_eq_b h3
  have HS : Hid (pa = pa2) := h4
  have g5 : (ta.toList == ta2.toList) = true := str_eq_b h5
  have g6 : (na.toList == na2.toList) = true := str_eq_b h6
  have g7 : (wh.toList == wh2.toList) = true := str_eq_b h7
  have g8 : (st == st2) = false := beq_eq_false_iff_ne.2 h8
  have HP : Hid (¬ (k = k2 ∧ d = d2 ∧ en = en2 ∧ tr = tr2 ∧ pa = pa2 ∧ ta = ta2 ∧ na = na2 ∧ wh = wh2 ∧ st = st2 ∧ te = te2)) := fun h => h8 h.2.2.2.2.2.2.2.2.1
  clear hd hd2 he he2 hp hp2 h0 h1 h2 h3 h4 h5 h6 h7 h8
  go_enter Tryz.func158, Tryz.ntmps158
  go_wp2_with (first | (go_at_call 227; (with_reducible refine (EqualE_t Ae en ce Ae2 en2 ce2 _ w.heap.size re re2 hel hel2 HE).mono ?_); rintro e w3 ⟨rfl, n3, rfl⟩) | (go_at_call 228; have rp3 := rp.drewN n3; have rp32 := rp2.drewN n3; (with_reducible refine (EqualS_t Ap pa cp Ap2 pa2 cp2 _ w.heap.size rp3 rp32 hpl hpl2 HS).mono ?_); rintro e w4 ⟨rfl, n4, rfl⟩))
  go_ret
  exact ⟨false, rfl, by simp [HP.out], by first | exact hb | exact hb.drewN' _ | exact (hb.drewN' _).drewN' _⟩

set_option maxRecDepth 100000 in
set_option maxHeartbeats 4000000 in
theorem same_9 (k : Int) (Ad : Option Addr) (d : List UInt8) (cd : Nat) (Ae : Option Addr) (en : List Ent) (ce : Nat) (tr : ByteArray) (Ap : Option Addr) (pa : List ByteArray) (cp : Nat) (ta na wh : ByteArray) (st : Int) (te : ByteArray) (k2 : Int) (Ad2 : Option Addr) (d2 : List UInt8) (cd2 : Nat) (Ae2 : Option Addr) (en2 : List Ent) (ce2 : Nat) (tr2 : ByteArray) (Ap2 : Option Addr) (pa2 : List ByteArray) (cp2 : Nat) (ta2 na2 wh2 : ByteArray) (st2 : Int) (te2 : ByteArray) (w : World) (hd : Rd w w.heap.size 1 Ad d.length (bc d)) (he : Rd w w.heap.size 3 Ae en.length (ec en)) (hp : Rd w w.heap.size 1 Ap pa.length (pc pa)) (hel : en.length ≤ 140737488355328) (hpl : pa.length ≤ 140737488355328) (hd2 : Rd w w.heap.size 1 Ad2 d2.length (bc d2)) (he2 : Rd w w.heap.size 3 Ae2 en2.length (ec en2)) (hp2 : Rd w w.heap.size 1 Ap2 pa2.length (pc pa2)) (hel2 : en2.length ≤ 140737488355328) (hpl2 : pa2.length ≤ 140737488355328) (h0 : k = k2) (h1 : d = d2) (h2 : en = en2) (h3 : tr = tr2) (h4 : pa = pa2) (h5 : ta = ta2) (h6 : na = na2) (h7 : wh = wh2) (h8 : st = st2) (h9 : ¬ (te = te2)) :
    Calls Tryz.prog 158 #[.agg #[.int .i64 k, .slice Ad d.length cd, .slice Ae en.length ce, .string tr, .slice Ap pa.length cp, .string ta, .string na, .string wh, .int .i64 st, .string te], .agg #[.int .i64 k2, .slice Ad2 d2.length cd2, .slice Ae2 en2.length ce2, .string tr2, .slice Ap2 pa2.length cp2, .string ta2, .string na2, .string wh2, .int .i64 st2, .string te2]] w (RetEqB (k = k2 ∧ d = d2 ∧ en = en2 ∧ tr = tr2 ∧ pa = pa2 ∧ ta = ta2 ∧ na = na2 ∧ wh = wh2 ∧ st = st2 ∧ te = te2) w) := by
  have hb : Below w.heap.size w ((w.alloc (.cells #[.int .i64 k, .slice Ad d.length cd, .slice Ae en.length ce, .string tr, .slice Ap pa.length cp, .string ta, .string na, .string wh, .int .i64 st, .string te] 40)).alloc (.cells #[.int .i64 k2, .slice Ad2 d2.length cd2, .slice Ae2 en2.length ce2, .string tr2, .slice Ap2 pa2.length cp2, .string ta2, .string na2, .string wh2, .int .i64 st2, .string te2] 40)) := ((Below.refl _ _).alloc (Nat.le_refl _) _).alloc (by simp) _
  have hv1 : (convert 36 9 (.slice Ad d.length cd)).run Tryz.prog ((w.alloc (.cells #[.int .i64 k, .slice Ad d.length cd, .slice Ae en.length ce, .string tr, .slice Ap pa.length cp, .string ta, .string na, .string wh, .int .i64 st, .string te] 40)).alloc (.cells #[.int .i64 k2, .slice Ad2 d2.length cd2, .slice Ae2 en2.length ce2, .string tr2, .slice Ap2 pa2.length cp2, .string ta2, .string na2, .string wh2, .int .i64 st2, .string te2] 40)) = .ok (.string ⟨d.toArray⟩) ((w.alloc (.cells #[.int .i64 k, .slice Ad d.length cd, .slice Ae en.length ce, .string tr, .slice Ap pa.length cp, .string ta, .string na, .string wh, .int .i64 st, .string te] 40)).alloc (.cells #[.int .i64 k2, .slice Ad2 d2.length cd2, .slice Ae2 en2.length ce2, .string tr2, .slice Ap2 pa2.length cp2, .string ta2, .string na2, .string wh2, .int .i64 st2, .string te2] 40)) := conv8f (hd.alive hb)
  have hv2 : (convert 36 9 (.slice Ad2 d2.length cd2)).run Tryz.prog ((w.alloc (.cells #[.int .i64 k, .slice Ad d.length cd, .slice Ae en.length ce, .string tr, .slice Ap pa.length cp, .string ta, .string na, .string wh, .int .i64 st, .string te] 40)).alloc (.cells #[.int .i64 k2, .slice Ad2 d2.length cd2, .slice Ae2 en2.length ce2, .string tr2, .slice Ap2 pa2.length cp2, .string ta2, .string na2, .string wh2, .int .i64 st2, .string te2] 40)) = .ok (.string ⟨d2.toArray⟩) ((w.alloc (.cells #[.int .i64 k, .slice Ad d.length cd, .slice Ae en.length ce, .string tr, .slice Ap pa.length cp, .string ta, .string na, .string wh, .int .i64 st, .string te] 40)).alloc (.cells #[.int .i64 k2, .slice Ad2 d2.length cd2, .slice Ae2 en2.length ce2, .string tr2, .slice Ap2 pa2.length cp2, .string ta2, .string na2, .string wh2, .int .i64 st2, .string te2] 40)) := conv8f (hd2.alive hb)
  have re := he.below hb
  have re2 := he2.below hb
  have rp := hp.below hb
  have rp2 := hp2.below hb
  have g0 : (k == k2) = true := beq_iff_eq.2 h0
  have g1 : (d == d2) = true := beq_iff_eq.2 h1
  have HE : Hid (en = en2) := h2
  have g3 : (tr.toList == tr2.toList) = true := str_eq_b h3
  have HS : Hid (pa = pa2) := h4
  have g5 : (ta.toList == ta2.toList) = true := str_eq_b h5
  have g6 : (na.toList == na2.toList) = true := str_eq_b h6
  have g7 : (wh.toList == wh2.toList) = true := str_eq_b h7
  have g8 : (st == st2) = true := beq_iff_eq.2 h8
  have g9 : (te.toList == te2.toList) = false := str_ne_b h9
  have HP : Hid (¬ (k = k2 ∧ d = d2 ∧ en = en2 ∧ tr = tr2 ∧ pa = pa2 ∧ ta = ta2 ∧ na = na2 ∧ wh = wh2 ∧ st = st2 ∧ te = te2)) := fun h => h9 h.2.2.2.2.2.2.2.2.2
  clear hd hd2 he he2 hp hp2 h0 h1 h2 h3 h4 h5 h6 h7 h8 h9
  go_enter Tryz.func158, Tryz.ntmps158
  go_wp2_with (first | (go_at_call 227; (with_reducible refine (EqualE_t Ae en ce Ae2 en2 ce2 _ w.heap.size re re2 hel hel2 HE).mono ?_); rintro e w3 ⟨rfl, n3, rfl⟩) | (go_at_call 228; have rp3 := rp.drewN n3; have rp32 := rp2.drewN n3; (with_reducible refine (EqualS_t Ap pa cp Ap2 pa2 cp2 _ w.heap.size rp3 rp32 hpl hpl2 HS).mono ?_); rintro e w4 ⟨rfl, n4, rfl⟩))
  go_ret
  exact ⟨false, rfl, by simp [HP.out], by first | exact hb | exact hb.drewN' _ | exact (hb.drewN' _).drewN' _⟩

set_option maxRecDepth 100000 in
set_option maxHeartbeats 4000000 in
theorem same_10 (k : Int) (Ad : Option Addr) (d : List UInt8) (cd : Nat) (Ae : Option Addr) (en : List Ent) (ce : Nat) (tr : ByteArray) (Ap : Option Addr) (pa : List ByteArray) (cp : Nat) (ta na wh : ByteArray) (st : Int) (te : ByteArray) (k2 : Int) (Ad2 : Option Addr) (d2 : List UInt8) (cd2 : Nat) (Ae2 : Option Addr) (en2 : List Ent) (ce2 : Nat) (tr2 : ByteArray) (Ap2 : Option Addr) (pa2 : List ByteArray) (cp2 : Nat) (ta2 na2 wh2 : ByteArray) (st2 : Int) (te2 : ByteArray) (w : World) (hd : Rd w w.heap.size 1 Ad d.length (bc d)) (he : Rd w w.heap.size 3 Ae en.length (ec en)) (hp : Rd w w.heap.size 1 Ap pa.length (pc pa)) (hel : en.length ≤ 140737488355328) (hpl : pa.length ≤ 140737488355328) (hd2 : Rd w w.heap.size 1 Ad2 d2.length (bc d2)) (he2 : Rd w w.heap.size 3 Ae2 en2.length (ec en2)) (hp2 : Rd w w.heap.size 1 Ap2 pa2.length (pc pa2)) (hel2 : en2.length ≤ 140737488355328) (hpl2 : pa2.length ≤ 140737488355328) (h0 : k = k2) (h1 : d = d2) (h2 : en = en2) (h3 : tr = tr2) (h4 : pa = pa2) (h5 : ta = ta2) (h6 : na = na2) (h7 : wh = wh2) (h8 : st = st2) (h9 : te = te2) :
    Calls Tryz.prog 158 #[.agg #[.int .i64 k, .slice Ad d.length cd, .slice Ae en.length ce, .string tr, .slice Ap pa.length cp, .string ta, .string na, .string wh, .int .i64 st, .string te], .agg #[.int .i64 k2, .slice Ad2 d2.length cd2, .slice Ae2 en2.length ce2, .string tr2, .slice Ap2 pa2.length cp2, .string ta2, .string na2, .string wh2, .int .i64 st2, .string te2]] w (RetEqB (k = k2 ∧ d = d2 ∧ en = en2 ∧ tr = tr2 ∧ pa = pa2 ∧ ta = ta2 ∧ na = na2 ∧ wh = wh2 ∧ st = st2 ∧ te = te2) w) := by
  have hb : Below w.heap.size w ((w.alloc (.cells #[.int .i64 k, .slice Ad d.length cd, .slice Ae en.length ce, .string tr, .slice Ap pa.length cp, .string ta, .string na, .string wh, .int .i64 st, .string te] 40)).alloc (.cells #[.int .i64 k2, .slice Ad2 d2.length cd2, .slice Ae2 en2.length ce2, .string tr2, .slice Ap2 pa2.length cp2, .string ta2, .string na2, .string wh2, .int .i64 st2, .string te2] 40)) := ((Below.refl _ _).alloc (Nat.le_refl _) _).alloc (by simp) _
  have hv1 : (convert 36 9 (.slice Ad d.length cd)).run Tryz.prog ((w.alloc (.cells #[.int .i64 k, .slice Ad d.length cd, .slice Ae en.length ce, .string tr, .slice Ap pa.length cp, .string ta, .string na, .string wh, .int .i64 st, .string te] 40)).alloc (.cells #[.int .i64 k2, .slice Ad2 d2.length cd2, .slice Ae2 en2.length ce2, .string tr2, .slice Ap2 pa2.length cp2, .string ta2, .string na2, .string wh2, .int .i64 st2, .string te2] 40)) = .ok (.string ⟨d.toArray⟩) ((w.alloc (.cells #[.int .i64 k, .slice Ad d.length cd, .slice Ae en.length ce, .string tr, .slice Ap pa.length cp, .string ta, .string na, .string wh, .int .i64 st, .string te] 40)).alloc (.cells #[.int .i64 k2, .slice Ad2 d2.length cd2, .slice Ae2 en2.length ce2, .string tr2, .slice Ap2 pa2.length cp2, .string ta2, .string na2, .string wh2, .int .i64 st2, .string te2] 40)) := conv8f (hd.alive hb)
  have hv2 : (convert 36 9 (.slice Ad2 d2.length cd2)).run Tryz.prog ((w.alloc (.cells #[.int .i64 k, .slice Ad d.length cd, .slice Ae en.length ce, .string tr, .slice Ap pa.length cp, .string ta, .string na, .string wh, .int .i64 st, .string te] 40)).alloc (.cells #[.int .i64 k2, .slice Ad2 d2.length cd2, .slice Ae2 en2.length ce2, .string tr2, .slice Ap2 pa2.length cp2, .string ta2, .string na2, .string wh2, .int .i64 st2, .string te2] 40)) = .ok (.string ⟨d2.toArray⟩) ((w.alloc (.cells #[.int .i64 k, .slice Ad d.length cd, .slice Ae en.length ce, .string tr, .slice Ap pa.length cp, .string ta, .string na, .string wh, .int .i64 st, .string te] 40)).alloc (.cells #[.int .i64 k2, .slice Ad2 d2.length cd2, .slice Ae2 en2.length ce2, .string tr2, .slice Ap2 pa2.length cp2, .string ta2, .string na2, .string wh2, .int .i64 st2, .string te2] 40)) := conv8f (hd2.alive hb)
  have re := he.below hb
  have re2 := he2.below hb
  have rp := hp.below hb
  have rp2 := hp2.below hb
  have g0 : (k == k2) = true := beq_iff_eq.2 h0
  have g1 : (d == d2) = true := beq_iff_eq.2 h1
  have HE : Hid (en = en2) := h2
  have g3 : (tr.toList == tr2.toList) = true := str_eq_b h3
  have HS : Hid (pa = pa2) := h4
  have g5 : (ta.toList == ta2.toList) = true := str_eq_b h5
  have g6 : (na.toList == na2.toList) = true := str_eq_b h6
  have g7 : (wh.toList == wh2.toList) = true := str_eq_b h7
  have g8 : (st == st2) = true := beq_iff_eq.2 h8
  have g9 : (te.toList == te2.toList) = true := str_eq_b h9
  have HP : Hid ((k = k2 ∧ d = d2 ∧ en = en2 ∧ tr = tr2 ∧ pa = pa2 ∧ ta = ta2 ∧ na = na2 ∧ wh = wh2 ∧ st = st2 ∧ te = te2)) := ⟨h0, h1, h2, h3, h4, h5, h6, h7, h8, h9⟩
  clear hd hd2 he he2 hp hp2 h0 h1 h2 h3 h4 h5 h6 h7 h8 h9
  go_enter Tryz.func158, Tryz.ntmps158
  go_wp2_with (first | (go_at_call 227; (with_reducible refine (EqualE_t Ae en ce Ae2 en2 ce2 _ w.heap.size re re2 hel hel2 HE).mono ?_); rintro e w3 ⟨rfl, n3, rfl⟩) | (go_at_call 228; have rp3 := rp.drewN n3; have rp32 := rp2.drewN n3; (with_reducible refine (EqualS_t Ap pa cp Ap2 pa2 cp2 _ w.heap.size rp3 rp32 hpl hpl2 HS).mono ?_); rintro e w4 ⟨rfl, n4, rfl⟩))
  go_ret
  exact ⟨true, rfl, by simp [HP.out], by first | exact hb | exact hb.drewN' _ | exact (hb.drewN' _).drewN' _⟩

theorem same_calls (k : Int) (Ad : Option Addr) (d : List UInt8) (cd : Nat) (Ae : Option Addr) (en : List Ent) (ce : Nat) (tr : ByteArray) (Ap : Option Addr) (pa : List ByteArray) (cp : Nat) (ta na wh : ByteArray) (st : Int) (te : ByteArray) (k2 : Int) (Ad2 : Option Addr) (d2 : List UInt8) (cd2 : Nat) (Ae2 : Option Addr) (en2 : List Ent) (ce2 : Nat) (tr2 : ByteArray) (Ap2 : Option Addr) (pa2 : List ByteArray) (cp2 : Nat) (ta2 na2 wh2 : ByteArray) (st2 : Int) (te2 : ByteArray) (w : World) (hd : Rd w w.heap.size 1 Ad d.length (bc d)) (he : Rd w w.heap.size 3 Ae en.length (ec en)) (hp : Rd w w.heap.size 1 Ap pa.length (pc pa)) (hel : en.length ≤ 140737488355328) (hpl : pa.length ≤ 140737488355328) (hd2 : Rd w w.heap.size 1 Ad2 d2.length (bc d2)) (he2 : Rd w w.heap.size 3 Ae2 en2.length (ec en2)) (hp2 : Rd w w.heap.size 1 Ap2 pa2.length (pc pa2)) (hel2 : en2.length ≤ 140737488355328) (hpl2 : pa2.length ≤ 140737488355328) :
    Calls Tryz.prog 158 #[.agg #[.int .i64 k, .slice Ad d.length cd, .slice Ae en.length ce, .string tr, .slice Ap pa.length cp, .string ta, .string na, .string wh, .int .i64 st, .string te], .agg #[.int .i64 k2, .slice Ad2 d2.length cd2, .slice Ae2 en2.length ce2, .string tr2, .slice Ap2 pa2.length cp2, .string ta2, .string na2, .string wh2, .int .i64 st2, .string te2]] w (RetEqB (k = k2 ∧ d = d2 ∧ en = en2 ∧ tr = tr2 ∧ pa = pa2 ∧ ta = ta2 ∧ na = na2 ∧ wh = wh2 ∧ st = st2 ∧ te = te2) w) := by
  by_cases h0 : k = k2
  case neg => exact same_0 k Ad d cd Ae en ce tr Ap pa cp ta na wh st te k2 Ad2 d2 cd2 Ae2 en2 ce2 tr2 Ap2 pa2 cp2 ta2 na2 wh2 st2 te2 w hd he hp hel hpl hd2 he2 hp2 hel2 hpl2 h0
  case pos =>
    by_cases h1 : d = d2
    case neg => exact same_1 k Ad d cd Ae en ce tr Ap pa cp ta na wh st te k2 Ad2 d2 cd2 Ae2 en2 ce2 tr2 Ap2 pa2 cp2 ta2 na2 wh2 st2 te2 w hd he hp hel hpl hd2 he2 hp2 hel2 hpl2 h0 h1
    case pos =>
      by_cases h2 : en = en2
      case neg => exact same_2 k Ad d cd Ae en ce tr Ap pa cp ta na wh st te k2 Ad2 d2 cd2 Ae2 en2 ce2 tr2 Ap2 pa2 cp2 ta2 na2 wh2 st2 te2 w hd he hp hel hpl hd2 he2 hp2 hel2 hpl2 h0 h1 h2
      case pos =>
        by_cases h3 : tr = tr2
        case neg => exact same_3 k Ad d cd Ae en ce tr Ap pa cp ta na wh st te k2 Ad2 d2 cd2 Ae2 en2 ce2 tr2 Ap2 pa2 cp2 ta2 na2 wh2 st2 te2 w hd he hp hel hpl hd2 he2 hp2 hel2 hpl2 h0 h1 h2 h3
        case pos =>
          by_cases h4 : pa = pa2
          case neg => exact same_4 k Ad d cd Ae en ce tr Ap pa cp ta na wh st te k2 Ad2 d2 cd2 Ae2 en2 ce2 tr2 Ap2 pa2 cp2 ta2 na2 wh2 st2 te2 w hd he hp hel hpl hd2 he2 hp2 hel2 hpl2 h0 h1 h2 h3 h4
          case pos =>
            by_cases h5 : ta = ta2
            case neg => exact same_5 k Ad d cd Ae en ce tr Ap pa cp ta na wh st te k2 Ad2 d2 cd2 Ae2 en2 ce2 tr2 Ap2 pa2 cp2 ta2 na2 wh2 st2 te2 w hd he hp hel hpl hd2 he2 hp2 hel2 hpl2 h0 h1 h2 h3 h4 h5
            case pos =>
              by_cases h6 : na = na2
              case neg => exact same_6 k Ad d cd Ae en ce tr Ap pa cp ta na wh st te k2 Ad2 d2 cd2 Ae2 en2 ce2 tr2 Ap2 pa2 cp2 ta2 na2 wh2 st2 te2 w hd he hp hel hpl hd2 he2 hp2 hel2 hpl2 h0 h1 h2 h3 h4 h5 h6
              case pos =>
                by_cases h7 : wh = wh2
                case neg => exact same_7 k Ad d cd Ae en ce tr Ap pa cp ta na wh st te k2 Ad2 d2 cd2 Ae2 en2 ce2 tr2 Ap2 pa2 cp2 ta2 na2 wh2 st2 te2 w hd he hp hel hpl hd2 he2 hp2 hel2 hpl2 h0 h1 h2 h3 h4 h5 h6 h7
                case pos =>
                  by_cases h8 : st = st2
                  case neg => exact same_8 k Ad d cd Ae en ce tr Ap pa cp ta na wh st te k2 Ad2 d2 cd2 Ae2 en2 ce2 tr2 Ap2 pa2 cp2 ta2 na2 wh2 st2 te2 w hd he hp hel hpl hd2 he2 hp2 hel2 hpl2 h0 h1 h2 h3 h4 h5 h6 h7 h8
                  case pos =>
                    by_cases h9 : te = te2
                    case neg => exact same_9 k Ad d cd Ae en ce tr Ap pa cp ta na wh st te k2 Ad2 d2 cd2 Ae2 en2 ce2 tr2 Ap2 pa2 cp2 ta2 na2 wh2 st2 te2 w hd he hp hel hpl hd2 he2 hp2 hel2 hpl2 h0 h1 h2 h3 h4 h5 h6 h7 h8 h9
                    case pos =>
                      exact same_10 k Ad d cd Ae en ce tr Ap pa cp ta na wh st te k2 Ad2 d2 cd2 Ae2 en2 ce2 tr2 Ap2 pa2 cp2 ta2 na2 wh2 st2 te2 w hd he hp hel hpl hd2 he2 hp2 hel2 hpl2 h0 h1 h2 h3 h4 h5 h6 h7 h8 h9
end Go.Proofs.YtecpbcmpncgokaaGreat

namespace Go.Proofs.YtecpbcmpncgokaaGreat
open Go.RowKit Go.Dol
set_option linter.unusedVariables false

theorem nil_is (w : World) : (binOp .eql 151 .nilIface .nilIface).run Tryz.prog w = .ok (.bool true) w := by kernel_rfl
theorem nil_isnt (T : TypeId) (v : Value) (w : World) : (binOp .eql 151 (.iface T v) .nilIface).run Tryz.prog w = .ok (.bool false) w := by kernel_rfl
theorem m_right1 (xs : Array Value) (w : World) : (method 461 215 (.agg xs) "dolmen/object.right").run Tryz.prog w = .ok (329, .agg xs) w := by kernel_rfl
theorem m_right2 (xs : Array Value) (w : World) : (method 461 217 (.agg xs) "dolmen/object.right").run Tryz.prog w = .ok (332, .agg xs) w := by kernel_rfl
theorem m_right3 (xs : Array Value) (w : World) : (method 461 219 (.agg xs) "dolmen/object.right").run Tryz.prog w = .ok (337, .agg xs) w := by kernel_rfl
theorem m_right4 (xs : Array Value) (w : World) : (method 461 221 (.agg xs) "dolmen/object.right").run Tryz.prog w = .ok (340, .agg xs) w := by kernel_rfl

/-- The verdict as the program has it. -/
def errC (b : Bool) : Int := if b then 0 else 1
theorem bool_same {a b : Bool} (h : a = true ↔ b = true) : a = b := Bool.eq_iff_iff.2 h
theorem sz0 (s : ByteArray) : (s.size = 0) ↔ (⟨#[]⟩ = s) := ⟨fun h => (size_zero h).symm, fun h => by subst h; rfl⟩
theorem ln0 {α : Type} (l : List α) : (l.length = 0) ↔ ([] = l) := ⟨fun h => (List.eq_nil_of_length_eq_zero h).symm, fun h => by subst h; rfl⟩
theorem st0 (k : Int) : (k = 0) ↔ (0 = k) := ⟨Eq.symm, Eq.symm⟩
section
variable (d : List UInt8) (en : List Ent) (tr : ByteArray) (pa : List ByteArray) (ta na wh : ByteArray) (st : Int) (te : ByteArray)
theorem check1_iff (h : decide (d.length ≤ 1048576) = true) : checkB geS ⟨1, d, en, tr, pa, ta, na, wh, st, te⟩ = true ↔ ((1 : Int) = 1 ∧ d = d ∧ [] = en ∧ ⟨#[]⟩ = tr ∧ [] = pa ∧ ⟨#[]⟩ = ta ∧ ⟨#[]⟩ = na ∧ ⟨#[]⟩ = wh ∧ 0 = st ∧ ⟨#[]⟩ = te) := by
  unfold checkB noEnts noCommit noTag noTold
  simp only [if_true, h, Bool.true_and, Bool.and_eq_true, decide_eq_true_eq, sz0, ln0, st0 st, true_and, and_assoc]
  exact ⟨fun ⟨a, b, c, d, e, f, g, h⟩ => ⟨a, b, c, d, e, f, h, g⟩, fun ⟨a, b, c, d, e, f, g, h⟩ => ⟨a, b, c, d, e, f, h, g⟩⟩
theorem check2_iff (h : entsB geS en = true) : checkB geS ⟨2, d, en, tr, pa, ta, na, wh, st, te⟩ = true ↔ ((2 : Int) = 2 ∧ [] = d ∧ en = en ∧ ⟨#[]⟩ = tr ∧ [] = pa ∧ ⟨#[]⟩ = ta ∧ ⟨#[]⟩ = na ∧ ⟨#[]⟩ = wh ∧ 0 = st ∧ ⟨#[]⟩ = te) := by
  unfold checkB noData noCommit noTag noTold
  simp only [if_true, if_neg (show ¬ (2 : Int) = 1 by decide), h, Bool.true_and, Bool.and_eq_true, decide_eq_true_eq, sz0, ln0, st0 st, true_and, and_assoc]
  exact ⟨fun ⟨a, b, c, d, e, f, g, h⟩ => ⟨a, b, c, d, e, f, h, g⟩, fun ⟨a, b, c, d, e, f, g, h⟩ => ⟨a, b, c, d, e, f, h, g⟩⟩
theorem check3_iff (h : (decide (tr.size = 32) && parsB pa && toldB wh st te) = true) : checkB geS ⟨3, d, en, tr, pa, ta, na, wh, st, te⟩ = true ↔ ((3 : Int) = 3 ∧ [] = d ∧ [] = en ∧ tr = tr ∧ pa = pa ∧ ⟨#[]⟩ = ta ∧ ⟨#[]⟩ = na ∧ wh = wh ∧ st = st ∧ te = te) := by
  unfold checkB noData noEnts noTag
  simp only [if_true, if_neg (show ¬ (3 : Int) = 1 by decide), if_neg (show ¬ (3 : Int) = 2 by decide), h, Bool.true_and, Bool.and_eq_true, decide_eq_true_eq, sz0, ln0, true_and, and_true, and_assoc]
theorem check4_iff (h : (decide (ta.size = 32) && decide (1 ≤ na.size) && decide (na.size ≤ 200) && toldB wh st te) = true) : checkB geS ⟨4, d, en, tr, pa, ta, na, wh, st, te⟩ = true ↔ ((4 : Int) = 4 ∧ [] = d ∧ [] = en ∧ ⟨#[]⟩ = tr ∧ [] = pa ∧ ta = ta ∧ na = na ∧ wh = wh ∧ st = st ∧ te = te) := by
  unfold checkB noData noEnts noCommit
  simp only [if_true, if_neg (show ¬ (4 : Int) = 1 by decide), if_neg (show ¬ (4 : Int) = 2 by decide), if_neg (show ¬ (4 : Int) = 3 by decide), h, Bool.true_and, Bool.and_eq_true, decide_eq_true_eq, sz0, ln0, true_and, and_true, and_assoc]
end

theorem right1_is (Ad : Option Addr) (d : List UInt8) (cd : Nat) (v : Bool) (w : World) (h : Hid (decide (d.length ≤ 1048576) = v)) : Calls Tryz.prog 329 #[.agg #[.slice Ad d.length cd]] w fun e w' => e = .returned (.bool v) ∧ Below w.heap.size w w' :=
  (blobRight_calls Ad d.length cd w).mono fun e w' ⟨h1, h2⟩ => ⟨by rw [h1, h.out], h2⟩

theorem right2_is (Ae : Option Addr) (en : List Ent) (ce : Nat) (v : Bool) (w : World) (hr : Rd w w.heap.size 3 Ae en.length (ec en)) (hl : en.length ≤ 140737488355328) (h : Hid (entsB geS en = v)) : Calls Tryz.prog 332 #[.agg #[.slice Ae en.length ce]] w fun e w' => e = .returned (.bool v) ∧ Below w.heap.size w w' :=
  (treeRight_calls Ae en ce w hr hl).mono fun e w' ⟨h1, h2⟩ => ⟨by rw [h1, h.out], h2⟩

theorem right3_is (tr : ByteArray) (Ap : Option Addr) (pa : List ByteArray) (cp : Nat) (wh : ByteArray) (st : Int) (te : ByteArray) (v : Bool) (w : World) (hr : Rd w w.heap.size 1 Ap pa.length (pc pa)) (hl : pa.length ≤ 140737488355328) (hsz : Hid (∀ p ∈ pa, p.size ≤ maxLen)) (h : Hid ((decide (tr.size = 32) && parsB pa && toldB wh st te) = v)) : Calls Tryz.prog 337 #[.agg #[.string tr, .slice Ap pa.length cp, .string wh, .int .i64 st, .string te]] w fun e w' => e = .returned (.bool v) ∧ Below w.heap.size w w' :=
  (commitRight_calls tr Ap pa cp wh st te w hr hl hsz).mono fun e w' ⟨h1, h2⟩ => ⟨by rw [h1, h.out], h2⟩

theorem right4_is (ta na wh : ByteArray) (st : Int) (te : ByteArray) (v : Bool) (w : World) (h : Hid ((decide (ta.size = 32) && decide (1 ≤ na.size) && decide (na.size ≤ 200) && toldB wh st te) = v)) : Calls Tryz.prog 340 #[.agg #[.string ta, .string na, .string wh, .int .i64 st, .string te]] w fun e w' => e = .returned (.bool v) ∧ Below w.heap.size w w' :=
  (tagRight_calls ta na wh st te w).mono fun e w' ⟨h1, h2⟩ => ⟨by rw [h1, h.out], h2⟩

set_option maxRecDepth 100000 in
set_option maxHeartbeats 4000000 in
theorem Check1_wrong (Ad : Option Addr) (d : List UInt8) (cd : Nat) (Ae : Option Addr) (en : List Ent) (ce : Nat) (tr : ByteArray) (Ap : Option Addr) (pa : List ByteArray) (cp : Nat) (ta na wh : ByteArray) (st : Int) (te : ByteArray) (w : World) (hd : Rd w w.heap.size 1 Ad d.length (bc d)) (he : Rd w w.heap.size 3 Ae en.length (ec en)) (hp : Rd w w.heap.size 1 Ap pa.length (pc pa)) (hel : en.length ≤ 140737488355328) (hpl : pa.length ≤ 140737488355328) (HV : Hid (decide (d.length ≤ 1048576) = false)) :
    Calls Tryz.prog 94 #[.agg #[.int .i64 1, .slice Ad d.length cd, .slice Ae en.length ce, .string tr, .slice Ap pa.length cp, .string ta, .string na, .string wh, .int .i64 st, .string te]] w fun e w' => e = .returned (.int .i64 1) ∧ Below w.heap.size w w' := by
  have h1 := nil_is
  have h2 := nil_isnt
  have h3 := m_right1
  have hb0 : Below w.heap.size w (w.alloc (.cells #[.int .i64 1, .slice Ad d.length cd, .slice Ae en.length ce, .string tr, .slice Ap pa.length cp, .string ta, .string na, .string wh, .int .i64 st, .string te] 40)) := (Below.refl _ _).alloc (Nat.le_refl _) _
  have hB := Blk.new w 40 [.int .i64 1, .slice Ad d.length cd, .slice Ae en.length ce, .string tr, .slice Ap pa.length cp, .string ta, .string na, .string wh, .int .i64 st, .string te]
  go_enter Tryz.func94, Tryz.ntmps94
  go_wp2_with ((go_at_call 95; refine (of1_calls Ad d.length cd Ae en.length ce tr Ap pa.length cp ta na wh st te _).mono ?_; rintro e w1 ⟨rfl, hb1⟩))
  have hB1 := hB.below hb1 hB.lt
  have hBd := hB1.drew
  have hbw := hb0.next hb1
  have hre : Rd w1.drew w1.drew.heap.size 3 Ae en.length (ec en) := ((he.below hbw).more hbw.size).drew
  have hrp : Rd w1.drew w1.drew.heap.size 1 Ap pa.length (pc pa) := ((hp.below hbw).more hbw.size).drew
  first | (go_region_with ((first
    | (go_at_call 329; (with_reducible refine (right1_is Ad d cd _ _ HV).mono ?_); rintro e w2 ⟨rfl, hb2⟩)))) | fail "with"
  all_goals go_wp2_with fail
  all_goals go_ret
  all_goals exact ⟨rfl, (hb0.next hb1).next ((Below.refl _ _).drew.trans hb2)⟩

set_option maxRecDepth 100000 in
set_option maxHeartbeats 4000000 in
theorem Check1_right (Ad : Option Addr) (d : List UInt8) (cd : Nat) (Ae : Option Addr) (en : List Ent) (ce : Nat) (tr : ByteArray) (Ap : Option Addr) (pa : List ByteArray) (cp : Nat) (ta na wh : ByteArray) (st : Int) (te : ByteArray) (w : World) (hd : Rd w w.heap.size 1 Ad d.length (bc d)) (he : Rd w w.heap.size 3 Ae en.length (ec en)) (hp : Rd w w.heap.size 1 Ap pa.length (pc pa)) (hel : en.length ≤ 140737488355328) (hpl : pa.length ≤ 140737488355328) (HV : Hid (decide (d.length ≤ 1048576) = true)) :
    Calls Tryz.prog 94 #[.agg #[.int .i64 1, .slice Ad d.length cd, .slice Ae en.length ce, .string tr, .slice Ap pa.length cp, .string ta, .string na, .string wh, .int .i64 st, .string te]] w fun e w' => e = .returned (.int .i64 (errC (checkB geS ⟨1, d, en, tr, pa, ta, na, wh, st, te⟩))) ∧ Below w.heap.size w w' := by
  have h1 := nil_is
  have h2 := nil_isnt
  have h3 := m_right1
  have hb0 : Below w.heap.size w (w.alloc (.cells #[.int .i64 1, .slice Ad d.length cd, .slice Ae en.length ce, .string tr, .slice Ap pa.length cp, .string ta, .string na, .string wh, .int .i64 st, .string te] 40)) := (Below.refl _ _).alloc (Nat.le_refl _) _
  have hB := Blk.new w 40 [.int .i64 1, .slice Ad d.length cd, .slice Ae en.length ce, .string tr, .slice Ap pa.length cp, .string ta, .string na, .string wh, .int .i64 st, .string te]
  go_enter Tryz.func94, Tryz.ntmps94
  go_wp2_with ((go_at_call 95; refine (of1_calls Ad d.length cd Ae en.length ce tr Ap pa.length cp ta na wh st te _).mono ?_; rintro e w1 ⟨rfl, hb1⟩))
  have hB1 := hB.below hb1 hB.lt
  have hBd := hB1.drew
  have hbw := hb0.next hb1
  have hre : Rd w1.drew w1.drew.heap.size 3 Ae en.length (ec en) := ((he.below hbw).more hbw.size).drew
  have hrp : Rd w1.drew w1.drew.heap.size 1 Ap pa.length (pc pa) := ((hp.below hbw).more hbw.size).drew
  have hrd : Rd w1.drew w1.drew.heap.size 1 Ad d.length (bc d) := ((hd.below hbw).more hbw.size).drew
  go_region_held3 (fun w' => w'.cell? ⟨w.heap.size, 0, none⟩ = some (.int .i64 1) ∧ w'.cell? ⟨w.heap.size, 1, none⟩ = some (.slice Ad d.length cd) ∧ w'.cell? ⟨w.heap.size, 2, none⟩ = some (.slice Ae en.length ce) ∧ w'.cell? ⟨w.heap.size, 3, none⟩ = some (.string tr) ∧ w'.cell? ⟨w.heap.size, 4, none⟩ = some (.slice Ap pa.length cp) ∧ w'.cell? ⟨w.heap.size, 5, none⟩ = some (.string ta) ∧ w'.cell? ⟨w.heap.size, 6, none⟩ = some (.string na) ∧ w'.cell? ⟨w.heap.size, 7, none⟩ = some (.string wh) ∧ w'.cell? ⟨w.heap.size, 8, none⟩ = some (.int .i64 st) ∧ w'.cell? ⟨w.heap.size, 9, none⟩ = some (.string te)) (first | exact obj_cells hBd | exact obj_cells hB2 | exact obj_cells hB3 | exact obj_cells hB4 | go_keep) ((first
    | (go_at_call 329; (with_reducible refine (right1_is Ad d cd _ _ HV).mono ?_); rintro e w2 ⟨rfl, hb2⟩; have hB2 := hBd.below hb2 hBd.lt)
    | (go_at_call 159; (with_reducible refine (made1_calls Ad d.length cd Ae en.length ce tr Ap pa.length cp ta na wh st te _).mono ?_); rintro e w3 ⟨rfl, hb3⟩; have hB3 := hB2.below hb3 hB2.lt; have hb23 := hb2.next hb3; have re3 := (hre.below hb23).more hb23.size; have rp3 := (hrp.below hb23).more hb23.size; have rd3 := (hrd.below hb23).more hb23.size)
    | (go_at_call 158; (have hs := same_calls 1 Ad d cd none [] 0 ⟨#[]⟩ none [] 0 ⟨#[]⟩ ⟨#[]⟩ ⟨#[]⟩ 0 ⟨#[]⟩ 1 Ad d cd Ae en ce tr Ap pa cp ta na wh st te w3 rd3 Rd.nil Rd.nil (by simp) (by simp) rd3 re3 rp3 hel hpl); (try simp only [List.length_nil] at hs); (with_reducible refine hs.mono ?_); rintro e w4 ⟨v, rfl, hv, hb4⟩; have h5 := check1_iff d en tr pa ta na wh st te HV.out; simp only [eq_self] at h5; have HF : Hid (checkB geS ⟨1, d, en, tr, pa, ta, na, wh, st, te⟩ = v) := Lib.hid (bool_same (h5.trans hv.symm)); clear h5; clear hv; have hB4 := hB3.below hb4 hB3.lt)))
  have hbe : Below w.heap.size w w4 := hbw.trans ((Below.refl _ _).drew.trans (((hb23.next hb4).mono hbw.size)))
  cases v with
  | true =>
    go_wp2_with fail
    go_ret
    rw [HF.out]
    exact ⟨rfl, hbe⟩
  | false =>
    go_wp2_with fail
    go_ret
    rw [HF.out]
    exact ⟨rfl, hbe⟩

set_option maxRecDepth 100000 in
set_option maxHeartbeats 4000000 in
theorem Check2_wrong (Ad : Option Addr) (d : List UInt8) (cd : Nat) (Ae : Option Addr) (en : List Ent) (ce : Nat) (tr : ByteArray) (Ap : Option Addr) (pa : List ByteArray) (cp : Nat) (ta na wh : ByteArray) (st : Int) (te : ByteArray) (w : World) (hd : Rd w w.heap.size 1 Ad d.length (bc d)) (he : Rd w w.heap.size 3 Ae en.length (ec en)) (hp : Rd w w.heap.size 1 Ap pa.length (pc pa)) (hel : en.length ≤ 140737488355328) (hpl : pa.length ≤ 140737488355328) (HV : Hid (entsB geS en = false)) :
    Calls Tryz.prog 94 #[.agg #[.int .i64 2, .slice Ad d.length cd, .slice Ae en.length ce, .string tr, .slice Ap pa.length cp, .string ta, .string na, .string wh, .int .i64 st, .string te]] w fun e w' => e = .returned (.int .i64 1) ∧ Below w.heap.size w w' := by
  have h1 := nil_is
  have h2 := nil_isnt
  have h3 := m_right2
  have hb0 : Below w.heap.size w (w.alloc (.cells #[.int .i64 2, .slice Ad d.length cd, .slice Ae en.length ce, .string tr, .slice Ap pa.length cp, .string ta, .string na, .string wh, .int .i64 st, .string te] 40)) := (Below.refl _ _).alloc (Nat.le_refl _) _
  have hB := Blk.new w 40 [.int .i64 2, .slice Ad d.length cd, .slice Ae en.length ce, .string tr, .slice Ap pa.length cp, .string ta, .string na, .string wh, .int .i64 st, .string te]
  go_enter Tryz.func94, Tryz.ntmps94
  go_wp2_with ((go_at_call 95; refine (of2_calls Ad d.length cd Ae en.length ce tr Ap pa.length cp ta na wh st te _).mono ?_; rintro e w1 ⟨rfl, hb1⟩))
  have hB1 := hB.below hb1 hB.lt
  have hBd := hB1.drew
  have hbw := hb0.next hb1
  have hre : Rd w1.drew w1.drew.heap.size 3 Ae en.length (ec en) := ((he.below hbw).more hbw.size).drew
  have hrp : Rd w1.drew w1.drew.heap.size 1 Ap pa.length (pc pa) := ((hp.below hbw).more hbw.size).drew
  first | (go_region_with ((first
    | (go_at_call 332; (with_reducible refine (right2_is Ae en ce _ _ hre hel HV).mono ?_); rintro e w2 ⟨rfl, hb2⟩)))) | fail "with"
  all_goals go_wp2_with fail
  all_goals go_ret
  all_goals exact ⟨rfl, (hb0.next hb1).next ((Below.refl _ _).drew.trans hb2)⟩

set_option maxRecDepth 100000 in
set_option maxHeartbeats 4000000 in
theorem Check2_right (Ad : Option Addr) (d : List UInt8) (cd : Nat) (Ae : Option Addr) (en : List Ent) (ce : Nat) (tr : ByteArray) (Ap : Option Addr) (pa : List ByteArray) (cp : Nat) (ta na wh : ByteArray) (st : Int) (te : ByteArray) (w : World) (hd : Rd w w.heap.size 1 Ad d.length (bc d)) (he : Rd w w.heap.size 3 Ae en.length (ec en)) (hp : Rd w w.heap.size 1 Ap pa.length (pc pa)) (hel : en.length ≤ 140737488355328) (hpl : pa.length ≤ 140737488355328) (HV : Hid (entsB geS en = true)) :
    Calls Tryz.prog 94 #[.agg #[.int .i64 2, .slice Ad d.length cd, .slice Ae en.length ce, .string tr, .slice Ap pa.length cp, .string ta, .string na, .string wh, .int .i64 st, .string te]] w fun e w' => e = .returned (.int .i64 (errC (checkB geS ⟨2, d, en, tr, pa, ta, na, wh, st, te⟩))) ∧ Below w.heap.size w w' := by
  have h1 := nil_is
  have h2 := nil_isnt
  have h3 := m_right2
  have hb0 : Below w.heap.size w (w.alloc (.cells #[.int .i64 2, .slice Ad d.length cd, .slice Ae en.length ce, .string tr, .slice Ap pa.length cp, .string ta, .string na, .string wh, .int .i64 st, .string te] 40)) := (Below.refl _ _).alloc (Nat.le_refl _) _
  have hB := Blk.new w 40 [.int .i64 2, .slice Ad d.length cd, .slice Ae en.length ce, .string tr, .slice Ap pa.length cp, .string ta, .string na, .string wh, .int .i64 st, .string te]
  go_enter Tryz.func94, Tryz.ntmps94
  go_wp2_with ((go_at_call 95; refine (of2_calls Ad d.length cd Ae en.length ce tr Ap pa.length cp ta na wh st te _).mono ?_; rintro e w1 ⟨rfl, hb1⟩))
  have hB1 := hB.below hb1 hB.lt
  have hBd := hB1.drew
  have hbw := hb0.next hb1
  have hre : Rd w1.drew w1.drew.heap.size 3 Ae en.length (ec en) := ((he.below hbw).more hbw.size).drew
  have hrp : Rd w1.drew w1.drew.heap.size 1 Ap pa.length (pc pa) := ((hp.below hbw).more hbw.size).drew
  have hrd : Rd w1.drew w1.drew.heap.size 1 Ad d.length (bc d) := ((hd.below hbw).more hbw.size).drew
  go_region_held3 (fun w' => w'.cell? ⟨w.heap.size, 0, none⟩ = some (.int .i64 2) ∧ w'.cell? ⟨w.heap.size, 1, none⟩ = some (.slice Ad d.length cd) ∧ w'.cell? ⟨w.heap.size, 2, none⟩ = some (.slice Ae en.length ce) ∧ w'.cell? ⟨w.heap.size, 3, none⟩ = some (.string tr) ∧ w'.cell? ⟨w.heap.size, 4, none⟩ = some (.slice Ap pa.length cp) ∧ w'.cell? ⟨w.heap.size, 5, none⟩ = some (.string ta) ∧ w'.cell? ⟨w.heap.size, 6, none⟩ = some (.string na) ∧ w'.cell? ⟨w.heap.size, 7, none⟩ = some (.string wh) ∧ w'.cell? ⟨w.heap.size, 8, none⟩ = some (.int .i64 st) ∧ w'.cell? ⟨w.heap.size, 9, none⟩ = some (.string te)) (first | exact obj_cells hBd | exact obj_cells hB2 | exact obj_cells hB3 | exact obj_cells hB4 | go_keep) ((first
    | (go_at_call 332; (with_reducible refine (right2_is Ae en ce _ _ hre hel HV).mono ?_); rintro e w2 ⟨rfl, hb2⟩; have hB2 := hBd.below hb2 hBd.lt)
    | (go_at_call 159; (with_reducible refine (made2_calls Ad d.length cd Ae en.length ce tr Ap pa.length cp ta na wh st te _).mono ?_); rintro e w3 ⟨rfl, hb3⟩; have hB3 := hB2.below hb3 hB2.lt; have hb23 := hb2.next hb3; have re3 := (hre.below hb23).more hb23.size; have rp3 := (hrp.below hb23).more hb23.size; have rd3 := (hrd.below hb23).more hb23.size)
    | (go_at_call 158; (have hs := same_calls 2 none [] 0 Ae en ce ⟨#[]⟩ none [] 0 ⟨#[]⟩ ⟨#[]⟩ ⟨#[]⟩ 0 ⟨#[]⟩ 2 Ad d cd Ae en ce tr Ap pa cp ta na wh st te w3 Rd.nil re3 Rd.nil hel (by simp) rd3 re3 rp3 hel hpl); (try simp only [List.length_nil] at hs); (with_reducible refine hs.mono ?_); rintro e w4 ⟨v, rfl, hv, hb4⟩; have h5 := check2_iff d en tr pa ta na wh st te HV.out; simp only [eq_self] at h5; have HF : Hid (checkB geS ⟨2, d, en, tr, pa, ta, na, wh, st, te⟩ = v) := Lib.hid (bool_same (h5.trans hv.symm)); clear h5; clear hv; have hB4 := hB3.below hb4 hB3.lt)))
  have hbe : Below w.heap.size w w4 := hbw.trans ((Below.refl _ _).drew.trans (((hb23.next hb4).mono hbw.size)))
  cases v with
  | true =>
    go_wp2_with fail
    go_ret
    rw [HF.out]
    exact ⟨rfl, hbe⟩
  | false =>
    go_wp2_with fail
    go_ret
    rw [HF.out]
    exact ⟨rfl, hbe⟩

set_option maxRecDepth 100000 in
set_option maxHeartbeats 4000000 in
theorem Check3_wrong (Ad : Option Addr) (d : List UInt8) (cd : Nat) (Ae : Option Addr) (en : List Ent) (ce : Nat) (tr : ByteArray) (Ap : Option Addr) (pa : List ByteArray) (cp : Nat) (ta na wh : ByteArray) (st : Int) (te : ByteArray) (w : World) (hd : Rd w w.heap.size 1 Ad d.length (bc d)) (he : Rd w w.heap.size 3 Ae en.length (ec en)) (hp : Rd w w.heap.size 1 Ap pa.length (pc pa)) (hel : en.length ≤ 140737488355328) (hpl : pa.length ≤ 140737488355328) (hsz : Hid (∀ p ∈ pa, p.size ≤ maxLen)) (HV : Hid ((decide (tr.size = 32) && parsB pa && toldB wh st te) = false)) :
    Calls Tryz.prog 94 #[.agg #[.int .i64 3, .slice Ad d.length cd, .slice Ae en.length ce, .string tr, .slice Ap pa.length cp, .string ta, .string na, .string wh, .int .i64 st, .string te]] w fun e w' => e = .returned (.int .i64 1) ∧ Below w.heap.size w w' := by
  have h1 := nil_is
  have h2 := nil_isnt
  have h3 := m_right3
  have hb0 : Below w.heap.size w (w.alloc (.cells #[.int .i64 3, .slice Ad d.length cd, .slice Ae en.length ce, .string tr, .slice Ap pa.length cp, .string ta, .string na, .string wh, .int .i64 st, .string te] 40)) := (Below.refl _ _).alloc (Nat.le_refl _) _
  have hB := Blk.new w 40 [.int .i64 3, .slice Ad d.length cd, .slice Ae en.length ce, .string tr, .slice Ap pa.length cp, .string ta, .string na, .string wh, .int .i64 st, .string te]
  go_enter Tryz.func94, Tryz.ntmps94
  go_wp2_with ((go_at_call 95; refine (of3_calls Ad d.length cd Ae en.length ce tr Ap pa.length cp ta na wh st te _).mono ?_; rintro e w1 ⟨rfl, hb1⟩))
  have hB1 := hB.below hb1 hB.lt
  have hBd := hB1.drew
  have hbw := hb0.next hb1
  have hre : Rd w1.drew w1.drew.heap.size 3 Ae en.length (ec en) := ((he.below hbw).more hbw.size).drew
  have hrp : Rd w1.drew w1.drew.heap.size 1 Ap pa.length (pc pa) := ((hp.below hbw).more hbw.size).drew
  first | (go_region_with ((first
    | (go_at_call 337; (with_reducible refine (right3_is tr Ap pa cp wh st te _ _ hrp hpl hsz HV).mono ?_); rintro e w2 ⟨rfl, hb2⟩)))) | fail "with"
  all_goals go_wp2_with fail
  all_goals go_ret
  all_goals exact ⟨rfl, (hb0.next hb1).next ((Below.refl _ _).drew.trans hb2)⟩

set_option maxRecDepth 100000 in
set_option maxHeartbeats 4000000 in
theorem Check3_right (Ad : Option Addr) (d : List UInt8) (cd : Nat) (Ae : Option Addr) (en : List Ent) (ce : Nat) (tr : ByteArray) (Ap : Option Addr) (pa : List ByteArray) (cp : Nat) (ta na wh : ByteArray) (st : Int) (te : ByteArray) (w : World) (hd : Rd w w.heap.size 1 Ad d.length (bc d)) (he : Rd w w.heap.size 3 Ae en.length (ec en)) (hp : Rd w w.heap.size 1 Ap pa.length (pc pa)) (hel : en.length ≤ 140737488355328) (hpl : pa.length ≤ 140737488355328) (hsz : Hid (∀ p ∈ pa, p.size ≤ maxLen)) (HV : Hid ((decide (tr.size = 32) && parsB pa && toldB wh st te) = true)) :
    Calls Tryz.prog 94 #[.agg #[.int .i64 3, .slice Ad d.length cd, .slice Ae en.length ce, .string tr, .slice Ap pa.length cp, .string ta, .string na, .string wh, .int .i64 st, .string te]] w fun e w' => e = .returned (.int .i64 (errC (checkB geS ⟨3, d, en, tr, pa, ta, na, wh, st, te⟩))) ∧ Below w.heap.size w w' := by
  have h1 := nil_is
  have h2 := nil_isnt
  have h3 := m_right3
  have hb0 : Below w.heap.size w (w.alloc (.cells #[.int .i64 3, .slice Ad d.length cd, .slice Ae en.length ce, .string tr, .slice Ap pa.length cp, .string ta, .string na, .string wh, .int .i64 st, .string te] 40)) := (Below.refl _ _).alloc (Nat.le_refl _) _
  have hB := Blk.new w 40 [.int .i64 3, .slice Ad d.length cd, .slice Ae en.length ce, .string tr, .slice Ap pa.length cp, .string ta, .string na, .string wh, .int .i64 st, .string te]
  go_enter Tryz.func94, Tryz.ntmps94
  go_wp2_with ((go_at_call 95; refine (of3_calls Ad d.length cd Ae en.length ce tr Ap pa.length cp ta na wh st te _).mono ?_; rintro e w1 ⟨rfl, hb1⟩))
  have hB1 := hB.below hb1 hB.lt
  have hBd := hB1.drew
  have hbw := hb0.next hb1
  have hre : Rd w1.drew w1.drew.heap.size 3 Ae en.length (ec en) := ((he.below hbw).more hbw.size).drew
  have hrp : Rd w1.drew w1.drew.heap.size 1 Ap pa.length (pc pa) := ((hp.below hbw).more hbw.size).drew
  have hrd : Rd w1.drew w1.drew.heap.size 1 Ad d.length (bc d) := ((hd.below hbw).more hbw.size).drew
  go_region_held3 (fun w' => w'.cell? ⟨w.heap.size, 0, none⟩ = some (.int .i64 3) ∧ w'.cell? ⟨w.heap.size, 1, none⟩ = some (.slice Ad d.length cd) ∧ w'.cell? ⟨w.heap.size, 2, none⟩ = some (.slice Ae en.length ce) ∧ w'.cell? ⟨w.heap.size, 3, none⟩ = some (.string tr) ∧ w'.cell? ⟨w.heap.size, 4, none⟩ = some (.slice Ap pa.length cp) ∧ w'.cell? ⟨w.heap.size, 5, none⟩ = some (.string ta) ∧ w'.cell? ⟨w.heap.size, 6, none⟩ = some (.string na) ∧ w'.cell? ⟨w.heap.size, 7, none⟩ = some (.string wh) ∧ w'.cell? ⟨w.heap.size, 8, none⟩ = some (.int .i64 st) ∧ w'.cell? ⟨w.heap.size, 9, none⟩ = some (.string te)) (first | exact obj_cells hBd | exact obj_cells hB2 | exact obj_cells hB3 | exact obj_cells hB4 | go_keep) ((first
    | (go_at_call 337; (with_reducible refine (right3_is tr Ap pa cp wh st te _ _ hrp hpl hsz HV).mono ?_); rintro e w2 ⟨rfl, hb2⟩; have hB2 := hBd.below hb2 hBd.lt)
    | (go_at_call 159; (with_reducible refine (made3_calls Ad d.length cd Ae en.length ce tr Ap pa.length cp ta na wh st te _).mono ?_); rintro e w3 ⟨rfl, hb3⟩; have hB3 := hB2.below hb3 hB2.lt; have hb23 := hb2.next hb3; have re3 := (hre.below hb23).more hb23.size; have rp3 := (hrp.below hb23).more hb23.size; have rd3 := (hrd.below hb23).more hb23.size)
    | (go_at_call 158; (have hs := same_calls 3 none [] 0 none [] 0 tr Ap pa cp ⟨#[]⟩ ⟨#[]⟩ wh st te 3 Ad d cd Ae en ce tr Ap pa cp ta na wh st te w3 Rd.nil Rd.nil rp3 (by simp) hpl rd3 re3 rp3 hel hpl); (try simp only [List.length_nil] at hs); (with_reducible refine hs.mono ?_); rintro e w4 ⟨v, rfl, hv, hb4⟩; have h5 := check3_iff d en tr pa ta na wh st te HV.out; simp only [eq_self] at h5; have HF : Hid (checkB geS ⟨3, d, en, tr, pa, ta, na, wh, st, te⟩ = v) := Lib.hid (bool_same (h5.trans hv.symm)); clear h5; clear hv; have hB4 := hB3.below hb4 hB3.lt)))
  have hbe : Below w.heap.size w w4 := hbw.trans ((Below.refl _ _).drew.trans (((hb23.next hb4).mono hbw.size)))
  cases v with
  | true =>
    go_wp2_with fail
    go_ret
    rw [HF.out]
    exact ⟨rfl, hbe⟩
  | false =>
    go_wp2_with fail
    go_ret
    rw [HF.out]
    exact ⟨rfl, hbe⟩

set_option maxRecDepth 100000 in
set_option maxHeartbeats 4000000 in
theorem Check4_wrong (Ad : Option Addr) (d : List UInt8) (cd : Nat) (Ae : Option Addr) (en : List Ent) (ce : Nat) (tr : ByteArray) (Ap : Option Addr) (pa : List ByteArray) (cp : Nat) (ta na wh : ByteArray) (st : Int) (te : ByteArray) (w : World) (hd : Rd w w.heap.size 1 Ad d.length (bc d)) (he : Rd w w.heap.size 3 Ae en.length (ec en)) (hp : Rd w w.heap.size 1 Ap pa.length (pc pa)) (hel : en.length ≤ 140737488355328) (hpl : pa.length ≤ 140737488355328) (HV : Hid ((decide (ta.size = 32) && decide (1 ≤ na.size) && decide (na.size ≤ 200) && toldB wh st te) = false)) :
    Calls Tryz.prog 94 #[.agg #[.int .i64 4, .slice Ad d.length cd, .slice Ae en.length ce, .string tr, .slice Ap pa.length cp, .string ta, .string na, .string wh, .int .i64 st, .string te]] w fun e w' => e = .returned (.int .i64 1) ∧ Below w.heap.size w w' := by
  have h1 := nil_is
  have h2 := nil_isnt
  have h3 := m_right4
  have hb0 : Below w.heap.size w (w.alloc (.cells #[.int .i64 4, .slice Ad d.length cd, .slice Ae en.length ce, .string tr, .slice Ap pa.length cp, .string ta, .string na, .string wh, .int .i64 st, .string te] 40)) := (Below.refl _ _).alloc (Nat.le_refl _) _
  have hB := Blk.new w 40 [.int .i64 4, .slice Ad d.length cd, .slice Ae en.length ce, .string tr, .slice Ap pa.length cp, .string ta, .string na, .string wh, .int .i64 st, .string te]
  go_enter Tryz.func94, Tryz.ntmps94
  go_wp2_with ((go_at_call 95; refine (of4_calls Ad d.length cd Ae en.length ce tr Ap pa.length cp ta na wh st te _).mono ?_; rintro e w1 ⟨rfl, hb1⟩))
  have hB1 := hB.below hb1 hB.lt
  have hBd := hB1.drew
  have hbw := hb0.next hb1
  have hre : Rd w1.drew w1.drew.heap.size 3 Ae en.length (ec en) := ((he.below hbw).more hbw.size).drew
  have hrp : Rd w1.drew w1.drew.heap.size 1 Ap pa.length (pc pa) := ((hp.below hbw).more hbw.size).drew
  first | (go_region_with ((first
    | (go_at_call 340; (with_reducible refine (right4_is ta na wh st te _ _ HV).mono ?_); rintro e w2 ⟨rfl, hb2⟩)))) | fail "with"
  all_goals go_wp2_with fail
  all_goals go_ret
  all_goals exact ⟨rfl, (hb0.next hb1).next ((Below.refl _ _).drew.trans hb2)⟩

set_option maxRecDepth 100000 in
set_option maxHeartbeats 4000000 in
theorem Check4_right (Ad : Option Addr) (d : List UInt8) (cd : Nat) (Ae : Option Addr) (en : List Ent) (ce : Nat) (tr : ByteArray) (Ap : Option Addr) (pa : List ByteArray) (cp : Nat) (ta na wh : ByteArray) (st : Int) (te : ByteArray) (w : World) (hd : Rd w w.heap.size 1 Ad d.length (bc d)) (he : Rd w w.heap.size 3 Ae en.length (ec en)) (hp : Rd w w.heap.size 1 Ap pa.length (pc pa)) (hel : en.length ≤ 140737488355328) (hpl : pa.length ≤ 140737488355328) (HV : Hid ((decide (ta.size = 32) && decide (1 ≤ na.size) && decide (na.size ≤ 200) && toldB wh st te) = true)) :
    Calls Tryz.prog 94 #[.agg #[.int .i64 4, .slice Ad d.length cd, .slice Ae en.length ce, .string tr, .slice Ap pa.length cp, .string ta, .string na, .string wh, .int .i64 st, .string te]] w fun e w' => e = .returned (.int .i64 (errC (checkB geS ⟨4, d, en, tr, pa, ta, na, wh, st, te⟩))) ∧ Below w.heap.size w w' := by
  have h1 := nil_is
  have h2 := nil_isnt
  have h3 := m_right4
  have hb0 : Below w.heap.size w (w.alloc (.cells #[.int .i64 4, .slice Ad d.length cd, .slice Ae en.length ce, .string tr, .slice Ap pa.length cp, .string ta, .string na, .string wh, .int .i64 st, .string te] 40)) := (Below.refl _ _).alloc (Nat.le_refl _) _
  have hB := Blk.new w 40 [.int .i64 4, .slice Ad d.length cd, .slice Ae en.length ce, .string tr, .slice Ap pa.length cp, .string ta, .string na, .string wh, .int .i64 st, .string te]
  go_enter Tryz.func94, Tryz.ntmps94
  go_wp2_with ((go_at_call 95; refine (of4_calls Ad d.length cd Ae en.length ce tr Ap pa.length cp ta na wh st te _).mono ?_; rintro e w1 ⟨rfl, hb1⟩))
  have hB1 := hB.below hb1 hB.lt
  have hBd := hB1.drew
  have hbw := hb0.next hb1
  have hre : Rd w1.drew w1.drew.heap.size 3 Ae en.length (ec en) := ((he.below hbw).more hbw.size).drew
  have hrp : Rd w1.drew w1.drew.heap.size 1 Ap pa.length (pc pa) := ((hp.below hbw).more hbw.size).drew
  have hrd : Rd w1.drew w1.drew.heap.size 1 Ad d.length (bc d) := ((hd.below hbw).more hbw.size).drew
  go_region_held3 (fun w' => w'.cell? ⟨w.heap.size, 0, none⟩ = some (.int .i64 4) ∧ w'.cell? ⟨w.heap.size, 1, none⟩ = some (.slice Ad d.length cd) ∧ w'.cell? ⟨w.heap.size, 2, none⟩ = some (.slice Ae en.length ce) ∧ w'.cell? ⟨w.heap.size, 3, none⟩ = some (.string tr) ∧ w'.cell? ⟨w.heap.size, 4, none⟩ = some (.slice Ap pa.length cp) ∧ w'.cell? ⟨w.heap.size, 5, none⟩ = some (.string ta) ∧ w'.cell? ⟨w.heap.size, 6, none⟩ = some (.string na) ∧ w'.cell? ⟨w.heap.size, 7, none⟩ = some (.string wh) ∧ w'.cell? ⟨w.heap.size, 8, none⟩ = some (.int .i64 st) ∧ w'.cell? ⟨w.heap.size, 9, none⟩ = some (.string te)) (first | exact obj_cells hBd | exact obj_cells hB2 | exact obj_cells hB3 | exact obj_cells hB4 | go_keep) ((first
    | (go_at_call 340; (with_reducible refine (right4_is ta na wh st te _ _ HV).mono ?_); rintro e w2 ⟨rfl, hb2⟩; have hB2 := hBd.below hb2 hBd.lt)
    | (go_at_call 159; (with_reducible refine (made4_calls Ad d.length cd Ae en.length ce tr Ap pa.length cp ta na wh st te _).mono ?_); rintro e w3 ⟨rfl, hb3⟩; have hB3 := hB2.below hb3 hB2.lt; have hb23 := hb2.next hb3; have re3 := (hre.below hb23).more hb23.size; have rp3 := (hrp.below hb23).more hb23.size; have rd3 := (hrd.below hb23).more hb23.size)
    | (go_at_call 158; (have hs := same_calls 4 none [] 0 none [] 0 ⟨#[]⟩ none [] 0 ta na wh st te 4 Ad d cd Ae en ce tr Ap pa cp ta na wh st te w3 Rd.nil Rd.nil Rd.nil (by simp) (by simp) rd3 re3 rp3 hel hpl); (try simp only [List.length_nil] at hs); (with_reducible refine hs.mono ?_); rintro e w4 ⟨v, rfl, hv, hb4⟩; have h5 := check4_iff d en tr pa ta na wh st te HV.out; simp only [eq_self] at h5; have HF : Hid (checkB geS ⟨4, d, en, tr, pa, ta, na, wh, st, te⟩ = v) := Lib.hid (bool_same (h5.trans hv.symm)); clear h5; clear hv; have hB4 := hB3.below hb4 hB3.lt)))
  have hbe : Below w.heap.size w w4 := hbw.trans ((Below.refl _ _).drew.trans (((hb23.next hb4).mono hbw.size)))
  cases v with
  | true =>
    go_wp2_with fail
    go_ret
    rw [HF.out]
    exact ⟨rfl, hbe⟩
  | false =>
    go_wp2_with fail
    go_ret
    rw [HF.out]
    exact ⟨rfl, hbe⟩

set_option maxRecDepth 100000 in
set_option maxHeartbeats 4000000 in
theorem CheckN_calls (k : Int) (Ad : Option Addr) (d : List UInt8) (cd : Nat) (Ae : Option Addr) (en : List Ent) (ce : Nat) (tr : ByteArray) (Ap : Option Addr) (pa : List ByteArray) (cp : Nat) (ta na wh : ByteArray) (st : Int) (te : ByteArray) (w : World) (hd : Rd w w.heap.size 1 Ad d.length (bc d)) (he : Rd w w.heap.size 3 Ae en.length (ec en)) (hp : Rd w w.heap.size 1 Ap pa.length (pc pa)) (hel : en.length ≤ 140737488355328) (hpl : pa.length ≤ 140737488355328) (n1 : k ≠ 1) (n2 : k ≠ 2) (n3 : k ≠ 3) (n4 : k ≠ 4) :
    Calls Tryz.prog 94 #[.agg #[.int .i64 k, .slice Ad d.length cd, .slice Ae en.length ce, .string tr, .slice Ap pa.length cp, .string ta, .string na, .string wh, .int .i64 st, .string te]] w fun e w' => e = .returned (.int .i64 1) ∧ Below w.heap.size w w' := by
  have h1 := nil_is
  have hb0 : Below w.heap.size w (w.alloc (.cells #[.int .i64 k, .slice Ad d.length cd, .slice Ae en.length ce, .string tr, .slice Ap pa.length cp, .string ta, .string na, .string wh, .int .i64 st, .string te] 40)) := (Below.refl _ _).alloc (Nat.le_refl _) _
  have hB := Blk.new w 40 [.int .i64 k, .slice Ad d.length cd, .slice Ae en.length ce, .string tr, .slice Ap pa.length cp, .string ta, .string na, .string wh, .int .i64 st, .string te]
  go_enter Tryz.func94, Tryz.ntmps94
  go_wp2_with ((go_at_call 95; refine (ofN_calls Ad d.length cd Ae en.length ce tr Ap pa.length cp ta na wh st te _ k n1 n2 n3 n4).mono ?_; rintro e w1 ⟨rfl, hb1⟩))
  have hB1 := hB.below hb1 hB.lt
  have hbw := hb0.next hb1
  first | (go_region_with ((fail))) | fail "with"
  all_goals go_wp2_with fail
  all_goals go_ret
  all_goals exact ⟨rfl, hbw.drew⟩

theorem Check_calls (k : Int) (Ad : Option Addr) (d : List UInt8) (cd : Nat) (Ae : Option Addr) (en : List Ent) (ce : Nat) (tr : ByteArray) (Ap : Option Addr) (pa : List ByteArray) (cp : Nat) (ta na wh : ByteArray) (st : Int) (te : ByteArray) (w : World) (hd : Rd w w.heap.size 1 Ad d.length (bc d)) (he : Rd w w.heap.size 3 Ae en.length (ec en)) (hp : Rd w w.heap.size 1 Ap pa.length (pc pa)) (hel : en.length ≤ 140737488355328) (hpl : pa.length ≤ 140737488355328) (hsz : Hid (∀ p ∈ pa, p.size ≤ maxLen)) :
    Calls Tryz.prog 94 #[.agg #[.int .i64 k, .slice Ad d.length cd, .slice Ae en.length ce, .string tr, .slice Ap pa.length cp, .string ta, .string na, .string wh, .int .i64 st, .string te]] w fun e w' => e = .returned (.int .i64 (errC (checkB geS ⟨k, d, en, tr, pa, ta, na, wh, st, te⟩))) ∧ Below w.heap.size w w' := by
  by_cases n1 : k = 1
  · subst n1
    cases hv : decide (d.length ≤ 1048576) with
    | true => exact Check1_right Ad d cd Ae en ce tr Ap pa cp ta na wh st te w hd he hp hel hpl (Lib.hid hv)
    | false => exact (Check1_wrong Ad d cd Ae en ce tr Ap pa cp ta na wh st te w hd he hp hel hpl (Lib.hid hv)).mono fun e w' h => ⟨by rw [h.1]; unfold checkB; rw [if_pos (by rfl), hv]; rfl, h.2⟩
  by_cases n2 : k = 2
  · subst n2
    cases hv : entsB geS en with
    | true => exact Check2_right Ad d cd Ae en ce tr Ap pa cp ta na wh st te w hd he hp hel hpl (Lib.hid hv)
    | false => exact (Check2_wrong Ad d cd Ae en ce tr Ap pa cp ta na wh st te w hd he hp hel hpl (Lib.hid hv)).mono fun e w' h => ⟨by rw [h.1]; unfold checkB; rw [if_neg (show ¬ (2 : Int) = 1 by decide), if_pos (by rfl), hv]; rfl, h.2⟩
  by_cases n3 : k = 3
  · subst n3
    cases hv : (decide (tr.size = 32) && parsB pa && toldB wh st te) with
    | true => exact Check3_right Ad d cd Ae en ce tr Ap pa cp ta na wh st te w hd he hp hel hpl hsz (Lib.hid hv)
    | false => exact (Check3_wrong Ad d cd Ae en ce tr Ap pa cp ta na wh st te w hd he hp hel hpl hsz (Lib.hid hv)).mono fun e w' h => ⟨by rw [h.1]; unfold checkB; rw [if_neg (show ¬ (3 : Int) = 1 by decide), if_neg (show ¬ (3 : Int) = 2 by decide), if_pos (by rfl), hv]; rfl, h.2⟩
  by_cases n4 : k = 4
  · subst n4
    cases hv : (decide (ta.size = 32) && decide (1 ≤ na.size) && decide (na.size ≤ 200) && toldB wh st te) with
    | true => exact Check4_right Ad d cd Ae en ce tr Ap pa cp ta na wh st te w hd he hp hel hpl (Lib.hid hv)
    | false => exact (Check4_wrong Ad d cd Ae en ce tr Ap pa cp ta na wh st te w hd he hp hel hpl (Lib.hid hv)).mono fun e w' h => ⟨by rw [h.1]; unfold checkB; rw [if_neg (show ¬ (4 : Int) = 1 by decide), if_neg (show ¬ (4 : Int) = 2 by decide), if_neg (show ¬ (4 : Int) = 3 by decide), if_pos (by rfl), hv]; rfl, h.2⟩
  exact (CheckN_calls k Ad d cd Ae en ce tr Ap pa cp ta na wh st te w hd he hp hel hpl n1 n2 n3 n4).mono fun e w' h => ⟨by rw [h.1]; unfold checkB; rw [if_neg n1, if_neg n2, if_neg n3, if_neg n4]; rfl, h.2⟩
end Go.Proofs.YtecpbcmpncgokaaGreat

namespace Go.Proofs.YtecpbcmpncgokaaGreat
open Go.RowKit Go.Dol
set_option linter.unusedVariables false

theorem m_lay1 (xs : Array Value) (w : World) : (method 461 215 (.agg xs) "dolmen/object.lay").run Tryz.prog w = .ok (327, .agg xs) w := by kernel_rfl
theorem m_lay2 (xs : Array Value) (w : World) : (method 461 217 (.agg xs) "dolmen/object.lay").run Tryz.prog w = .ok (330, .agg xs) w := by kernel_rfl
theorem m_lay3 (xs : Array Value) (w : World) : (method 461 219 (.agg xs) "dolmen/object.lay").run Tryz.prog w = .ok (335, .agg xs) w := by kernel_rfl
theorem m_lay4 (xs : Array Value) (w : World) : (method 461 221 (.agg xs) "dolmen/object.lay").run Tryz.prog w = .ok (338, .agg xs) w := by kernel_rfl

/-- What Encode hands back. -/
def RetEnc (w : World) (o : Go.Dol.Obj) (e : Ending) (w' : World) : Prop :=
  Below w.heap.size w w' ∧ ((checkB geS o = true ∧ ∃ (l : List UInt8) (A : Option Addr) (c : Nat), Hid (l = encO o) ∧ e = .returned (.tuple #[.slice A l.length c, .int .i64 0]) ∧ w'.ownsRow w.heap.size 5 1 (.slice A l.length c) l.length (bc l)) ∨
    (checkB geS o = false ∧ e = .returned (.tuple #[.slice none 0 0, .int .i64 1])))
theorem flat_le {α : Type} (f : α → List UInt8) (b : Nat) : ∀ (l : List α), (∀ x ∈ l, (f x).length ≤ b) → (l.flatMap f).length ≤ l.length * b
  | [], _ => by simp
  | x :: l, h => by
    have h1 := flat_le f b l fun y hy => h y (List.mem_cons_of_mem _ hy)
    have h2 := h x (List.mem_cons_self ..)
    rw [List.flatMap_cons, List.length_append, List.length_cons, Nat.add_mul]
    omega
theorem ents_small {l : List Ent} (h : entsB geS l = true) : (l.flatMap entB).length ≤ 4299000000 := by
  have h1 := flat_le entB 1048700 l fun e he => by
    have h2 := ent_mem (entsB_parts h).1 e he
    have h3 := tx_length (s := e.name) (by omega)
    have h4 := str_len e.id
    unfold entB
    rw [List.length_append, List.length_cons, h4]
    omega
  have h2 := (entsB_parts h).2
  have h3 : l.length * 1048700 ≤ 4096 * 1048700 := Nat.mul_le_mul_right _ h2
  omega
theorem pars_small {l : List ByteArray} (h : parsB l = true) : (parsN l).length ≤ 128 := by
  have h1 := flat_le (fun p : ByteArray => p.data.toList) 32 l fun p hp => by
    have h2 := par_mem (parsB_parts h).1 p hp
    have h4 := str_len p
    omega
  have h2 := (parsB_parts h).2
  unfold parsN
  omega
/-- The parts of what a verdict says. -/
theorem check1_parts {o : Go.Dol.Obj} (hk : o.kind = 1) (h : checkB geS o = true) : o.data.length ≤ 1048576 := by
  unfold checkB at h
  rw [if_pos hk, Bool.and_eq_true] at h
  exact of_decide_eq_true h.1
theorem check2_parts {o : Go.Dol.Obj} (hk : o.kind = 2) (h : checkB geS o = true) : entsB geS o.ents = true := by
  unfold checkB at h
  rw [if_neg (by omega), if_pos hk, Bool.and_eq_true] at h
  exact h.1
theorem check3_parts {o : Go.Dol.Obj} (hk : o.kind = 3) (h : checkB geS o = true) : o.tree.size = 32 ∧ parsB o.pars = true ∧ toldB o.who o.stamp o.text = true := by
  unfold checkB at h
  rw [if_neg (by omega), if_neg (by omega), if_pos hk] at h
  simp only [Bool.and_eq_true, decide_eq_true_eq] at h
  exact ⟨h.1.1.1, h.1.1.2, h.1.2⟩
theorem check4_parts {o : Go.Dol.Obj} (hk : o.kind = 4) (h : checkB geS o = true) : o.target.size = 32 ∧ o.name.size ≤ 200 ∧ toldB o.who o.stamp o.text = true := by
  unfold checkB at h
  rw [if_neg (by omega), if_neg (by omega), if_neg (by omega), if_pos hk] at h
  simp only [Bool.and_eq_true, decide_eq_true_eq] at h
  exact ⟨h.1.1.1.1, h.1.1.2, h.1.2⟩
theorem check_kind {o : Go.Dol.Obj} (h : checkB geS o = true) : o.kind = 1 ∨ o.kind = 2 ∨ o.kind = 3 ∨ o.kind = 4 := by
  unfold checkB at h
  by_cases n1 : o.kind = 1
  · exact .inl n1
  by_cases n2 : o.kind = 2
  · exact .inr (.inl n2)
  by_cases n3 : o.kind = 3
  · exact .inr (.inr (.inl n3))
  by_cases n4 : o.kind = 4
  · exact .inr (.inr (.inr n4))
  rw [if_neg n1, if_neg n2, if_neg n3, if_neg n4] at h
  cases h
theorem lay1_all (Ad : Option Addr) (d : List UInt8) (cd : Nat) (Ae : Option Addr) (en : List Ent) (ce : Nat) (tr : ByteArray) (Ap : Option Addr) (pa : List ByteArray) (cp : Nat) (ta na wh : ByteArray) (st : Int) (te : ByteArray) (base : Nat) (A : Option Addr) (u : World) (hb : base ≤ u.heap.size) (hown : u.ownsRow base 5 1 (.slice A 1 1) 1 (bc [1])) (hd : Rd u base 1 Ad d.length (bc d)) (HC : Hid (checkB geS ⟨1, d, en, tr, pa, ta, na, wh, st, te⟩ = true)) :
    Calls Tryz.prog 327 #[.agg #[.slice Ad d.length cd], .slice A 1 1] u (RetO base u (encO ⟨1, d, en, tr, pa, ta, na, wh, st, te⟩)) := by
  have h1 := check1_parts rfl HC.out
  exact blobLay_calls base Ad d cd A [1] 1 u hown (hd.more hb) (by show 1 + d.length ≤ _; have h2 : d.length ≤ 1048576 := h1; omega) hb
theorem lay2_all (Ad : Option Addr) (d : List UInt8) (cd : Nat) (Ae : Option Addr) (en : List Ent) (ce : Nat) (tr : ByteArray) (Ap : Option Addr) (pa : List ByteArray) (cp : Nat) (ta na wh : ByteArray) (st : Int) (te : ByteArray) (base : Nat) (A : Option Addr) (u : World) (hb : base ≤ u.heap.size) (hown : u.ownsRow base 5 1 (.slice A 1 1) 1 (bc [2])) (he : Rd u base 3 Ae en.length (ec en)) (hel : en.length ≤ 140737488355328) (HC : Hid (checkB geS ⟨2, d, en, tr, pa, ta, na, wh, st, te⟩ = true)) :
    Calls Tryz.prog 330 #[.agg #[.slice Ae en.length ce], .slice A 1 1] u (RetO base u (encO ⟨2, d, en, tr, pa, ta, na, wh, st, te⟩)) := by
  have h1 := ents_small (check2_parts rfl HC.out)
  exact treeLay_calls base Ae en ce A [2] 1 u (Rd.of_own hown) he hel (by show 1 + 1000 + _ ≤ _; have h2 : (en.flatMap entB).length ≤ 4299000000 := h1; omega) hb
theorem lay3_all (Ad : Option Addr) (d : List UInt8) (cd : Nat) (Ae : Option Addr) (en : List Ent) (ce : Nat) (tr : ByteArray) (Ap : Option Addr) (pa : List ByteArray) (cp : Nat) (ta na wh : ByteArray) (st : Int) (te : ByteArray) (base : Nat) (A : Option Addr) (u : World) (hb : base ≤ u.heap.size) (hown : u.ownsRow base 5 1 (.slice A 1 1) 1 (bc [3])) (hp : Rd u base 1 Ap pa.length (pc pa)) (hpl : pa.length ≤ 140737488355328) (HC : Hid (checkB geS ⟨3, d, en, tr, pa, ta, na, wh, st, te⟩ = true)) :
    Calls Tryz.prog 335 #[.agg #[.string tr, .slice Ap pa.length cp, .string wh, .int .i64 st, .string te], .slice A 1 1] u (RetO base u (encO ⟨3, d, en, tr, pa, ta, na, wh, st, te⟩)) := by
  obtain ⟨h1, h2, h3⟩ := check3_parts rfl HC.out
  have h4 := pars_small h2
  have h5 := told_parts h3
  exact commitLay_calls base tr Ap pa cp wh st te A [3] 1 u hown hp hpl (by show 1 + tr.size + (parsN pa).length + 3000 + wh.size + te.size ≤ _; have h6 : tr.size = 32 := h1; have h7 : (parsN pa).length ≤ 128 := h4; have h8 : wh.size ≤ 1000 := h5.1; have h9 : te.size ≤ 1000 := h5.2.1; omega) hb
theorem lay4_all (Ad : Option Addr) (d : List UInt8) (cd : Nat) (Ae : Option Addr) (en : List Ent) (ce : Nat) (tr : ByteArray) (Ap : Option Addr) (pa : List ByteArray) (cp : Nat) (ta na wh : ByteArray) (st : Int) (te : ByteArray) (base : Nat) (A : Option Addr) (u : World) (hb : base ≤ u.heap.size) (hown : u.ownsRow base 5 1 (.slice A 1 1) 1 (bc [4])) (HC : Hid (checkB geS ⟨4, d, en, tr, pa, ta, na, wh, st, te⟩ = true)) :
    Calls Tryz.prog 338 #[.agg #[.string ta, .string na, .string wh, .int .i64 st, .string te], .slice A 1 1] u (RetO base u (encO ⟨4, d, en, tr, pa, ta, na, wh, st, te⟩)) := by
  obtain ⟨h1, h2, h3⟩ := check4_parts rfl HC.out
  have h5 := told_parts h3
  exact tagLay_calls base ta na wh st te A [4] 1 u hown (by show 1 + ta.size + na.size + 2000 + wh.size + te.size ≤ _; have h6 : ta.size = 32 := h1; have h7 : na.size ≤ 200 := h2; have h8 : wh.size ≤ 1000 := h5.1; have h9 : te.size ≤ 1000 := h5.2.1; omega) hb

set_option maxRecDepth 100000 in
set_option maxHeartbeats 4000000 in
theorem Encode_wrong (k : Int) (Ad : Option Addr) (d : List UInt8) (cd : Nat) (Ae : Option Addr) (en : List Ent) (ce : Nat) (tr : ByteArray) (Ap : Option Addr) (pa : List ByteArray) (cp : Nat) (ta na wh : ByteArray) (st : Int) (te : ByteArray) (w : World) (hd : Rd w w.heap.size 1 Ad d.length (bc d)) (he : Rd w w.heap.size 3 Ae en.length (ec en)) (hp : Rd w w.heap.size 1 Ap pa.length (pc pa)) (hel : en.length ≤ 140737488355328) (hpl : pa.length ≤ 140737488355328) (hsz : Hid (∀ p ∈ pa, p.size ≤ maxLen)) (HC : Hid (checkB geS ⟨k, d, en, tr, pa, ta, na, wh, st, te⟩ = false)) :
    Calls Tryz.prog 37 #[.agg #[.int .i64 k, .slice Ad d.length cd, .slice Ae en.length ce, .string tr, .slice Ap pa.length cp, .string ta, .string na, .string wh, .int .i64 st, .string te]] w fun e w' => e = .returned (.tuple #[.slice none 0 0, .int .i64 1]) ∧ Below w.heap.size w w' := by
  have hb0 : Below w.heap.size w (w.alloc (.cells #[.int .i64 k, .slice Ad d.length cd, .slice Ae en.length ce, .string tr, .slice Ap pa.length cp, .string ta, .string na, .string wh, .int .i64 st, .string te] 40)) := (Below.refl _ _).alloc (Nat.le_refl _) _
  have hB := Blk.new w 40 [.int .i64 k, .slice Ad d.length cd, .slice Ae en.length ce, .string tr, .slice Ap pa.length cp, .string ta, .string na, .string wh, .int .i64 st, .string te]
  obtain ⟨c0, c1, c2, c3, c4, c5, c6, c7, c8, c9⟩ := obj_cells hB
  have hd0 := hd.alive hb0
  have he0 := he.alive hb0
  have hp0 := hp.alive hb0
  have hEC : Hid (errC (checkB geS ⟨k, d, en, tr, pa, ta, na, wh, st, te⟩) = 1) := Lib.hid (by rw [HC.out]; rfl)
  go_enter Tryz.func37, Tryz.ntmps37
  go_wp2_with (go_at_call 94; (with_reducible refine (Check_calls k Ad d cd Ae en ce tr Ap pa cp ta na wh st te _ hd0 he0 hp0 hel hpl hsz).mono ?_); rintro e w1 ⟨rfl, hb1⟩; rw [hEC.out])
  go_ret2
  exact ⟨rfl, hb0.next hb1⟩

set_option maxRecDepth 100000 in
set_option maxHeartbeats 4000000 in
theorem Encode1_calls (Ad : Option Addr) (d : List UInt8) (cd : Nat) (Ae : Option Addr) (en : List Ent) (ce : Nat) (tr : ByteArray) (Ap : Option Addr) (pa : List ByteArray) (cp : Nat) (ta na wh : ByteArray) (st : Int) (te : ByteArray) (w : World) (hd : Rd w w.heap.size 1 Ad d.length (bc d)) (he : Rd w w.heap.size 3 Ae en.length (ec en)) (hp : Rd w w.heap.size 1 Ap pa.length (pc pa)) (hel : en.length ≤ 140737488355328) (hpl : pa.length ≤ 140737488355328) (hsz : Hid (∀ p ∈ pa, p.size ≤ maxLen)) (HC : Hid (checkB geS ⟨1, d, en, tr, pa, ta, na, wh, st, te⟩ = true)) :
    Calls Tryz.prog 37 #[.agg #[.int .i64 1, .slice Ad d.length cd, .slice Ae en.length ce, .string tr, .slice Ap pa.length cp, .string ta, .string na, .string wh, .int .i64 st, .string te]] w (RetEnc w ⟨1, d, en, tr, pa, ta, na, wh, st, te⟩) := by
  have h3 := m_lay1
  have hb0 : Below w.heap.size w (w.alloc (.cells #[.int .i64 1, .slice Ad d.length cd, .slice Ae en.length ce, .string tr, .slice Ap pa.length cp, .string ta, .string na, .string wh, .int .i64 st, .string te] 40)) := (Below.refl _ _).alloc (Nat.le_refl _) _
  have hB := Blk.new w 40 [.int .i64 1, .slice Ad d.length cd, .slice Ae en.length ce, .string tr, .slice Ap pa.length cp, .string ta, .string na, .string wh, .int .i64 st, .string te]
  obtain ⟨c0, c1, c2, c3, c4, c5, c6, c7, c8, c9⟩ := obj_cells hB
  have hd0 := hd.alive hb0
  have he0 := he.alive hb0
  have hp0 := hp.alive hb0
  have hEC : Hid (errC (checkB geS ⟨1, d, en, tr, pa, ta, na, wh, st, te⟩) = 0) := Lib.hid (by rw [HC.out]; rfl)
  go_enter Tryz.func37, Tryz.ntmps37
  go_wp2_with (go_at_call 94; (with_reducible refine (Check_calls 1 Ad d cd Ae en ce tr Ap pa cp ta na wh st te _ hd0 he0 hp0 hel hpl hsz).mono ?_); rintro e w1 ⟨rfl, hb1⟩; rw [hEC.out])
  have hB1 := hB.below hb1 hB.lt
  have hbw := hb0.next hb1
  have hBd := hB1.drew
  have hbd : Below w.heap.size w w1.drew := hbw.drew
  have hd2 := hd.alive hbd
  have he2 := he.alive hbd
  have hp2 := hp.alive hbd
  have hlt := hBd.lt
  have hwr : IntKind.u8.wrap 1 = 1 := by rfl
  have hAl : Below w1.drew.heap.size w1.drew (w1.drew.alloc (.cells #[.int .u8 1] 5)) := (Below.refl _ _).alloc (Nat.le_refl _) _
  go_region_held3 (fun w' => w'.cell? ⟨w.heap.size, 0, none⟩ = some (.int .i64 1) ∧ w'.cell? ⟨w.heap.size, 1, none⟩ = some (.slice Ad d.length cd) ∧ w'.cell? ⟨w.heap.size, 2, none⟩ = some (.slice Ae en.length ce) ∧ w'.cell? ⟨w.heap.size, 3, none⟩ = some (.string tr) ∧ w'.cell? ⟨w.heap.size, 4, none⟩ = some (.slice Ap pa.length cp) ∧ w'.cell? ⟨w.heap.size, 5, none⟩ = some (.string ta) ∧ w'.cell? ⟨w.heap.size, 6, none⟩ = some (.string na) ∧ w'.cell? ⟨w.heap.size, 7, none⟩ = some (.string wh) ∧ w'.cell? ⟨w.heap.size, 8, none⟩ = some (.int .i64 st) ∧ w'.cell? ⟨w.heap.size, 9, none⟩ = some (.string te)) (first | exact obj_cells hBd | exact obj_cells hB3 | exact obj_cells hB4 | exact obj_cells (hBd.alloc _) | exact obj_cells (hB3.alloc _) | go_keep) ((first
    | (go_at_call 95; (with_reducible refine (of1_calls Ad d.length cd Ae en.length ce tr Ap pa.length cp ta na wh st te _).mono ?_); rintro e w3 ⟨rfl, hb3⟩;
        have hx3 : Below w1.drew.heap.size w1.drew w3 := (by first | exact hb3 | exact hAl.next hb3);
        have hB3 : Blk w3 w.heap.size 40 [.int .i64 1, .slice Ad d.length cd, .slice Ae en.length ce, .string tr, .slice Ap pa.length cp, .string ta, .string na, .string wh, .int .i64 st, .string te] := hBd.below hx3 hlt)
    | (go_at_call 327; have hu : Below w1.drew.heap.size w1.drew (w3.alloc (.cells #[.int .u8 1] 5)) := hx3.alloc hx3.size _;
        have ho : (w3.alloc (.cells #[.int .u8 1] 5)).ownsRow w1.drew.heap.size 5 1 (.slice (some ⟨w3.heap.size, 0, none⟩) 1 1) 1 (bc [1]) := World.ownsRow_lit w3 #[.int .u8 1] 1 hx3.size (by decide) rfl;
        (with_reducible refine (lay1_all Ad d cd Ae en ce tr Ap pa cp ta na wh st te w1.drew.heap.size _ _ hu.size ho (hd2.below hu) HC).mono ?_); rintro e w4 ⟨l, A, c, el, rfl, hol, hb4, i1, i2⟩;
        have hx4 : Below w1.drew.heap.size w1.drew w4 := hu.trans hb4; have hB4 : Blk w4 w.heap.size 40 [.int .i64 1, .slice Ad d.length cd, .slice Ae en.length ce, .string tr, .slice Ap pa.length cp, .string ta, .string na, .string wh, .int .i64 st, .string te] := hBd.below hx4 hlt)
    | (go_at_call 327;
        have ho : w3.ownsRow w1.drew.heap.size 5 1 (.slice (some ⟨w1.heap.size, 0, none⟩) 1 1) 1 (bc [1]) := own_belowW (World.ownsRow_lit w1.drew #[.int .u8 1] 1 (Nat.le_refl _) (by decide) rfl) hb3;
        (with_reducible refine (lay1_all Ad d cd Ae en ce tr Ap pa cp ta na wh st te w1.drew.heap.size _ _ hx3.size ho (hd2.below hx3) HC).mono ?_); rintro e w4 ⟨l, A, c, el, rfl, hol, hb4, i1, i2⟩;
        have hx4 : Below w1.drew.heap.size w1.drew w4 := hx3.trans hb4; have hB4 : Blk w4 w.heap.size 40 [.int .i64 1, .slice Ad d.length cd, .slice Ae en.length ce, .string tr, .slice Ap pa.length cp, .string ta, .string na, .string wh, .int .i64 st, .string te] := hBd.below hx4 hlt)))
  all_goals have hbe : Below w.heap.size w w4 := hbd.trans (hx4.mono hbd.size)
  all_goals go_wp2_with fail
  all_goals go_ret2
  all_goals exact ⟨hbe, .inl ⟨HC.out, l, A, c, el, rfl, hol.base hbd.size⟩⟩

set_option maxRecDepth 100000 in
set_option maxHeartbeats 4000000 in
theorem Encode2_calls (Ad : Option Addr) (d : List UInt8) (cd : Nat) (Ae : Option Addr) (en : List Ent) (ce : Nat) (tr : ByteArray) (Ap : Option Addr) (pa : List ByteArray) (cp : Nat) (ta na wh : ByteArray) (st : Int) (te : ByteArray) (w : World) (hd : Rd w w.heap.size 1 Ad d.length (bc d)) (he : Rd w w.heap.size 3 Ae en.length (ec en)) (hp : Rd w w.heap.size 1 Ap pa.length (pc pa)) (hel : en.length ≤ 140737488355328) (hpl : pa.length ≤ 140737488355328) (hsz : Hid (∀ p ∈ pa, p.size ≤ maxLen)) (HC : Hid (checkB geS ⟨2, d, en, tr, pa, ta, na, wh, st, te⟩ = true)) :
    Calls Tryz.prog 37 #[.agg #[.int .i64 2, .slice Ad d.length cd, .slice Ae en.length ce, .string tr, .slice Ap pa.length cp, .string ta, .string na, .string wh, .int .i64 st, .string te]] w (RetEnc w ⟨2, d, en, tr, pa, ta, na, wh, st, te⟩) := by
  have h3 := m_lay2
  have hb0 : Below w.heap.size w (w.alloc (.cells #[.int .i64 2, .slice Ad d.length cd, .slice Ae en.length ce, .string tr, .slice Ap pa.length cp, .string ta, .string na, .string wh, .int .i64 st, .string te] 40)) := (Below.refl _ _).alloc (Nat.le_refl _) _
  have hB := Blk.new w 40 [.int .i64 2, .slice Ad d.length cd, .slice Ae en.length ce, .string tr, .slice Ap pa.length cp, .string ta, .string na, .string wh, .int .i64 st, .string te]
  obtain ⟨c0, c1, c2, c3, c4, c5, c6, c7, c8, c9⟩ := obj_cells hB
  have hd0 := hd.alive hb0
  have he0 := he.alive hb0
  have hp0 := hp.alive hb0
  have hEC : Hid (errC (checkB geS ⟨2, d, en, tr, pa, ta, na, wh, st, te⟩) = 0) := Lib.hid (by rw [HC.out]; rfl)
  go_enter Tryz.func37, Tryz.ntmps37
  go_wp2_with (go_at_call 94; (with_reducible refine (Check_calls 2 Ad d cd Ae en ce tr Ap pa cp ta na wh st te _ hd0 he0 hp0 hel hpl hsz).mono ?_); rintro e w1 ⟨rfl, hb1⟩; rw [hEC.out])
  have hB1 := hB.below hb1 hB.lt
  have hbw := hb0.next hb1
  have hBd := hB1.drew
  have hbd : Below w.heap.size w w1.drew := hbw.drew
  have hd2 := hd.alive hbd
  have he2 := he.alive hbd
  have hp2 := hp.alive hbd
  have hlt := hBd.lt
  have hwr : IntKind.u8.wrap 2 = 2 := by rfl
  have hAl : Below w1.drew.heap.size w1.drew (w1.drew.alloc (.cells #[.int .u8 2] 5)) := (Below.refl _ _).alloc (Nat.le_refl _) _
  go_region_held3 (fun w' => w'.cell? ⟨w.heap.size, 0, none⟩ = some (.int .i64 2) ∧ w'.cell? ⟨w.heap.size, 1, none⟩ = some (.slice Ad d.length cd) ∧ w'.cell? ⟨w.heap.size, 2, none⟩ = some (.slice Ae en.length ce) ∧ w'.cell? ⟨w.heap.size, 3, none⟩ = some (.string tr) ∧ w'.cell? ⟨w.heap.size, 4, none⟩ = some (.slice Ap pa.length cp) ∧ w'.cell? ⟨w.heap.size, 5, none⟩ = some (.string ta) ∧ w'.cell? ⟨w.heap.size, 6, none⟩ = some (.string na) ∧ w'.cell? ⟨w.heap.size, 7, none⟩ = some (.string wh) ∧ w'.cell? ⟨w.heap.size, 8, none⟩ = some (.int .i64 st) ∧ w'.cell? ⟨w.heap.size, 9, none⟩ = some (.string te)) (first | exact obj_cells hBd | exact obj_cells hB3 | exact obj_cells hB4 | exact obj_cells (hBd.alloc _) | exact obj_cells (hB3.alloc _) | go_keep) ((first
    | (go_at_call 95; (with_reducible refine (of2_calls Ad d.length cd Ae en.length ce tr Ap pa.length cp ta na wh st te _).mono ?_); rintro e w3 ⟨rfl, hb3⟩;
        have hx3 : Below w1.drew.heap.size w1.drew w3 := (by first | exact hb3 | exact hAl.next hb3);
        have hB3 : Blk w3 w.heap.size 40 [.int .i64 2, .slice Ad d.length cd, .slice Ae en.length ce, .string tr, .slice Ap pa.length cp, .string ta, .string na, .string wh, .int .i64 st, .string te] := hBd.below hx3 hlt)
    | (go_at_call 330; have hu : Below w1.drew.heap.size w1.drew (w3.alloc (.cells #[.int .u8 2] 5)) := hx3.alloc hx3.size _;
        have ho : (w3.alloc (.cells #[.int .u8 2] 5)).ownsRow w1.drew.heap.size 5 1 (.slice (some ⟨w3.heap.size, 0, none⟩) 1 1) 1 (bc [2]) := World.ownsRow_lit w3 #[.int .u8 2] 1 hx3.size (by decide) rfl;
        (with_reducible refine (lay2_all Ad d cd Ae en ce tr Ap pa cp ta na wh st te w1.drew.heap.size _ _ hu.size ho (he2.below hu) hel HC).mono ?_); rintro e w4 ⟨l, A, c, el, rfl, hol, hb4, i1, i2⟩;
        have hx4 : Below w1.drew.heap.size w1.drew w4 := hu.trans hb4; have hB4 : Blk w4 w.heap.size 40 [.int .i64 2, .slice Ad d.length cd, .slice Ae en.length ce, .string tr, .slice Ap pa.length cp, .string ta, .string na, .string wh, .int .i64 st, .string te] := hBd.below hx4 hlt)
    | (go_at_call 330;
        have ho : w3.ownsRow w1.drew.heap.size 5 1 (.slice (some ⟨w1.heap.size, 0, none⟩) 1 1) 1 (bc [2]) := own_belowW (World.ownsRow_lit w1.drew #[.int .u8 2] 1 (Nat.le_refl _) (by decide) rfl) hb3;
        (with_reducible refine (lay2_all Ad d cd Ae en ce tr Ap pa cp ta na wh st te w1.drew.heap.size _ _ hx3.size ho (he2.below hx3) hel HC).mono ?_); rintro e w4 ⟨l, A, c, el, rfl, hol, hb4, i1, i2⟩;
        have hx4 : Below w1.drew.heap.size w1.drew w4 := hx3.trans hb4; have hB4 : Blk w4 w.heap.size 40 [.int .i64 2, .slice Ad d.length cd, .slice Ae en.length ce, .string tr, .slice Ap pa.length cp, .string ta, .string na, .string wh, .int .i64 st, .string te] := hBd.below hx4 hlt)))
  all_goals have hbe : Below w.heap.size w w4 := hbd.trans (hx4.mono hbd.size)
  all_goals go_wp2_with fail
  all_goals go_ret2
  all_goals exact ⟨hbe, .inl ⟨HC.out, l, A, c, el, rfl, hol.base hbd.size⟩⟩

set_option maxRecDepth 100000 in
set_option maxHeartbeats 4000000 in
theorem Encode3_calls (Ad : Option Addr) (d : List UInt8) (cd : Nat) (Ae : Option Addr) (en : List Ent) (ce : Nat) (tr : ByteArray) (Ap : Option Addr) (pa : List ByteArray) (cp : Nat) (ta na wh : ByteArray) (st : Int) (te : ByteArray) (w : World) (hd : Rd w w.heap.size 1 Ad d.length (bc d)) (he : Rd w w.heap.size 3 Ae en.length (ec en)) (hp : Rd w w.heap.size 1 Ap pa.length (pc pa)) (hel : en.length ≤ 140737488355328) (hpl : pa.length ≤ 140737488355328) (hsz : Hid (∀ p ∈ pa, p.size ≤ maxLen)) (HC : Hid (checkB geS ⟨3, d, en, tr, pa, ta, na, wh, st, te⟩ = true)) :
    Calls Tryz.prog 37 #[.agg #[.int .i64 3, .slice Ad d.length cd, .slice Ae en.length ce, .string tr, .slice Ap pa.length cp, .string ta, .string na, .string wh, .int .i64 st, .string te]] w (RetEnc w ⟨3, d, en, tr, pa, ta, na, wh, st, te⟩) := by
  have h3 := m_lay3
  have hb0 : Below w.heap.size w (w.alloc (.cells #[.int .i64 3, .slice Ad d.length cd, .slice Ae en.length ce, .string tr, .slice Ap pa.length cp, .string ta, .string na, .string wh, .int .i64 st, .string te] 40)) := (Below.refl _ _).alloc (Nat.le_refl _) _
  have hB := Blk.new w 40 [.int .i64 3, .slice Ad d.length cd, .slice Ae en.length ce, .string tr, .slice Ap pa.length cp, .string ta, .string na, .string wh, .int .i64 st, .string te]
  obtain ⟨c0, c1, c2, c3, c4, c5, c6, c7, c8, c9⟩ := obj_cells hB
  have hd0 := hd.alive hb0
  have he0 := he.alive hb0
  have hp0 := hp.alive hb0
  have hEC : Hid (errC (checkB geS ⟨3, d, en, tr, pa, ta, na, wh, st, te⟩) = 0) := Lib.hid (by rw [HC.out]; rfl)
  go_enter Tryz.func37, Tryz.ntmps37
  go_wp2_with (go_at_call 94; (with_reducible refine (Check_calls 3 Ad d cd Ae en ce tr Ap pa cp ta na wh st te _ hd0 he0 hp0 hel hpl hsz).mono ?_); rintro e w1 ⟨rfl, hb1⟩; rw [hEC.out])
  have hB1 := hB.below hb1 hB.lt
  have hbw := hb0.next hb1
  have hBd := hB1.drew
  have hbd : Below w.heap.size w w1.drew := hbw.drew
  have hd2 := hd.alive hbd
  have he2 := he.alive hbd
  have hp2 := hp.alive hbd
  have hlt := hBd.lt
  have hwr : IntKind.u8.wrap 3 = 3 := by rfl
  have hAl : Below w1.drew.heap.size w1.drew (w1.drew.alloc (.cells #[.int .u8 3] 5)) := (Below.refl _ _).alloc (Nat.le_refl _) _
  go_region_held3 (fun w' => w'.cell? ⟨w.heap.size, 0, none⟩ = some (.int .i64 3) ∧ w'.cell? ⟨w.heap.size, 1, none⟩ = some (.slice Ad d.length cd) ∧ w'.cell? ⟨w.heap.size, 2, none⟩ = some (.slice Ae en.length ce) ∧ w'.cell? ⟨w.heap.size, 3, none⟩ = some (.string tr) ∧ w'.cell? ⟨w.heap.size, 4, none⟩ = some (.slice Ap pa.length cp) ∧ w'.cell? ⟨w.heap.size, 5, none⟩ = some (.string ta) ∧ w'.cell? ⟨w.heap.size, 6, none⟩ = some (.string na) ∧ w'.cell? ⟨w.heap.size, 7, none⟩ = some (.string wh) ∧ w'.cell? ⟨w.heap.size, 8, none⟩ = some (.int .i64 st) ∧ w'.cell? ⟨w.heap.size, 9, none⟩ = some (.string te)) (first | exact obj_cells hBd | exact obj_cells hB3 | exact obj_cells hB4 | exact obj_cells (hBd.alloc _) | exact obj_cells (hB3.alloc _) | go_keep) ((first
    | (go_at_call 95; (with_reducible refine (of3_calls Ad d.length cd Ae en.length ce tr Ap pa.length cp ta na wh st te _).mono ?_); rintro e w3 ⟨rfl, hb3⟩;
        have hx3 : Below w1.drew.heap.size w1.drew w3 := (by first | exact hb3 | exact hAl.next hb3);
        have hB3 : Blk w3 w.heap.size 40 [.int .i64 3, .slice Ad d.length cd, .slice Ae en.length ce, .string tr, .slice Ap pa.length cp, .string ta, .string na, .string wh, .int .i64 st, .string te] := hBd.below hx3 hlt)
    | (go_at_call 335; have hu : Below w1.drew.heap.size w1.drew (w3.alloc (.cells #[.int .u8 3] 5)) := hx3.alloc hx3.size _;
        have ho : (w3.alloc (.cells #[.int .u8 3] 5)).ownsRow w1.drew.heap.size 5 1 (.slice (some ⟨w3.heap.size, 0, none⟩) 1 1) 1 (bc [3]) := World.ownsRow_lit w3 #[.int .u8 3] 1 hx3.size (by decide) rfl;
        (with_reducible refine (lay3_all Ad d cd Ae en ce tr Ap pa cp ta na wh st te w1.drew.heap.size _ _ hu.size ho (hp2.below hu) hpl HC).mono ?_); rintro e w4 ⟨l, A, c, el, rfl, hol, hb4, i1, i2⟩;
        have hx4 : Below w1.drew.heap.size w1.drew w4 := hu.trans hb4; have hB4 : Blk w4 w.heap.size 40 [.int .i64 3, .slice Ad d.length cd, .slice Ae en.length ce, .string tr, .slice Ap pa.length cp, .string ta, .string na, .string wh, .int .i64 st, .string te] := hBd.below hx4 hlt)
    | (go_at_call 335;
        have ho : w3.ownsRow w1.drew.heap.size 5 1 (.slice (some ⟨w1.heap.size, 0, none⟩) 1 1) 1 (bc [3]) := own_belowW (World.ownsRow_lit w1.drew #[.int .u8 3] 1 (Nat.le_refl _) (by decide) rfl) hb3;
        (with_reducible refine (lay3_all Ad d cd Ae en ce tr Ap pa cp ta na wh st te w1.drew.heap.size _ _ hx3.size ho (hp2.below hx3) hpl HC).mono ?_); rintro e w4 ⟨l, A, c, el, rfl, hol, hb4, i1, i2⟩;
        have hx4 : Below w1.drew.heap.size w1.drew w4 := hx3.trans hb4; have hB4 : Blk w4 w.heap.size 40 [.int .i64 3, .slice Ad d.length cd, .slice Ae en.length ce, .string tr, .slice Ap pa.length cp, .string ta, .string na, .string wh, .int .i64 st, .string te] := hBd.below hx4 hlt)))
  all_goals have hbe : Below w.heap.size w w4 := hbd.trans (hx4.mono hbd.size)
  all_goals go_wp2_with fail
  all_goals go_ret2
  all_goals exact ⟨hbe, .inl ⟨HC.out, l, A, c, el, rfl, hol.base hbd.size⟩⟩

set_option maxRecDepth 100000 in
set_option maxHeartbeats 4000000 in
theorem Encode4_calls (Ad : Option Addr) (d : List UInt8) (cd : Nat) (Ae : Option Addr) (en : List Ent) (ce : Nat) (tr : ByteArray) (Ap : Option Addr) (pa : List ByteArray) (cp : Nat) (ta na wh : ByteArray) (st : Int) (te : ByteArray) (w : World) (hd : Rd w w.heap.size 1 Ad d.length (bc d)) (he : Rd w w.heap.size 3 Ae en.length (ec en)) (hp : Rd w w.heap.size 1 Ap pa.length (pc pa)) (hel : en.length ≤ 140737488355328) (hpl : pa.length ≤ 140737488355328) (hsz : Hid (∀ p ∈ pa, p.size ≤ maxLen)) (HC : Hid (checkB geS ⟨4, d, en, tr, pa, ta, na, wh, st, te⟩ = true)) :
    Calls Tryz.prog 37 #[.agg #[.int .i64 4, .slice Ad d.length cd, .slice Ae en.length ce, .string tr, .slice Ap pa.length cp, .string ta, .string na, .string wh, .int .i64 st, .string te]] w (RetEnc w ⟨4, d, en, tr, pa, ta, na, wh, st, te⟩) := by
  have h3 := m_lay4
  have hb0 : Below w.heap.size w (w.alloc (.cells #[.int .i64 4, .slice Ad d.length cd, .slice Ae en.length ce, .string tr, .slice Ap pa.length cp, .string ta, .string na, .string wh, .int .i64 st, .string te] 40)) := (Below.refl _ _).alloc (Nat.le_refl _) _
  have hB := Blk.new w 40 [.int .i64 4, .slice Ad d.length cd, .slice Ae en.length ce, .string tr, .slice Ap pa.length cp, .string ta, .string na, .string wh, .int .i64 st, .string te]
  obtain ⟨c0, c1, c2, c3, c4, c5, c6, c7, c8, c9⟩ := obj_cells hB
  have hd0 := hd.alive hb0
  have he0 := he.alive hb0
  have hp0 := hp.alive hb0
  have hEC : Hid (errC (checkB geS ⟨4, d, en, tr, pa, ta, na, wh, st, te⟩) = 0) := Lib.hid (by rw [HC.out]; rfl)
  go_enter Tryz.func37, Tryz.ntmps37
  go_wp2_with (go_at_call 94; (with_reducible refine (Check_calls 4 Ad d cd Ae en ce tr Ap pa cp ta na wh st te _ hd0 he0 hp0 hel hpl hsz).mono ?_); rintro e w1 ⟨rfl, hb1⟩; rw [hEC.out])
  have hB1 := hB.below hb1 hB.lt
  have hbw := hb0.next hb1
  have hBd := hB1.drew
  have hbd : Below w.heap.size w w1.drew := hbw.drew
  have hd2 := hd.alive hbd
  have he2 := he.alive hbd
  have hp2 := hp.alive hbd
  have hlt := hBd.lt
  have hwr : IntKind.u8.wrap 4 = 4 := by rfl
  have hAl : Below w1.drew.heap.size w1.drew (w1.drew.alloc (.cells #[.int .u8 4] 5)) := (Below.refl _ _).alloc (Nat.le_refl _) _
  go_region_held3 (fun w' => w'.cell? ⟨w.heap.size, 0, none⟩ = some (.int .i64 4) ∧ w'.cell? ⟨w.heap.size, 1, none⟩ = some (.slice Ad d.length cd) ∧ w'.cell? ⟨w.heap.size, 2, none⟩ = some (.slice Ae en.length ce) ∧ w'.cell? ⟨w.heap.size, 3, none⟩ = some (.string tr) ∧ w'.cell? ⟨w.heap.size, 4, none⟩ = some (.slice Ap pa.length cp) ∧ w'.cell? ⟨w.heap.size, 5, none⟩ = some (.string ta) ∧ w'.cell? ⟨w.heap.size, 6, none⟩ = some (.string na) ∧ w'.cell? ⟨w.heap.size, 7, none⟩ = some (.string wh) ∧ w'.cell? ⟨w.heap.size, 8, none⟩ = some (.int .i64 st) ∧ w'.cell? ⟨w.heap.size, 9, none⟩ = some (.string te)) (first | exact obj_cells hBd | exact obj_cells hB3 | exact obj_cells hB4 | exact obj_cells (hBd.alloc _) | exact obj_cells (hB3.alloc _) | go_keep) ((first
    | (go_at_call 95; (with_reducible refine (of4_calls Ad d.length cd Ae en.length ce tr Ap pa.length cp ta na wh st te _).mono ?_); rintro e w3 ⟨rfl, hb3⟩;
        have hx3 : Below w1.drew.heap.size w1.drew w3 := (by first | exact hb3 | exact hAl.next hb3);
        have hB3 : Blk w3 w.heap.size 40 [.int .i64 4, .slice Ad d.length cd, .slice Ae en.length ce, .string tr, .slice Ap pa.length cp, .string ta, .string na, .string wh, .int .i64 st, .string te] := hBd.below hx3 hlt)
    | (go_at_call 338; have hu : Below w1.drew.heap.size w1.drew (w3.alloc (.cells #[.int .u8 4] 5)) := hx3.alloc hx3.size _;
        have ho : (w3.alloc (.cells #[.int .u8 4] 5)).ownsRow w1.drew.heap.size 5 1 (.slice (some ⟨w3.heap.size, 0, none⟩) 1 1) 1 (bc [4]) := World.ownsRow_lit w3 #[.int .u8 4] 1 hx3.size (by decide) rfl;
        (with_reducible refine (lay4_all Ad d cd Ae en ce tr Ap pa cp ta na wh st te w1.drew.heap.size _ _ hu.size ho HC).mono ?_); rintro e w4 ⟨l, A, c, el, rfl, hol, hb4, i1, i2⟩;
        have hx4 : Below w1.drew.heap.size w1.drew w4 := hu.trans hb4; have hB4 : Blk w4 w.heap.size 40 [.int .i64 4, .slice Ad d.length cd, .slice Ae en.length ce, .string tr, .slice Ap pa.length cp, .string ta, .string na, .string wh, .int .i64 st, .string te] := hBd.below hx4 hlt)
    | (go_at_call 338;
        have ho : w3.ownsRow w1.drew.heap.size 5 1 (.slice (some ⟨w1.heap.size, 0, none⟩) 1 1) 1 (bc [4]) := own_belowW (World.ownsRow_lit w1.drew #[.int .u8 4] 1 (Nat.le_refl _) (by decide) rfl) hb3;
        (with_reducible refine (lay4_all Ad d cd Ae en ce tr Ap pa cp ta na wh st te w1.drew.heap.size _ _ hx3.size ho HC).mono ?_); rintro e w4 ⟨l, A, c, el, rfl, hol, hb4, i1, i2⟩;
        have hx4 : Below w1.drew.heap.size w1.drew w4 := hx3.trans hb4; have hB4 : Blk w4 w.heap.size 40 [.int .i64 4, .slice Ad d.length cd, .slice Ae en.length ce, .string tr, .slice Ap pa.length cp, .string ta, .string na, .string wh, .int .i64 st, .string te] := hBd.below hx4 hlt)))
  all_goals have hbe : Below w.heap.size w w4 := hbd.trans (hx4.mono hbd.size)
  all_goals go_wp2_with fail
  all_goals go_ret2
  all_goals exact ⟨hbe, .inl ⟨HC.out, l, A, c, el, rfl, hol.base hbd.size⟩⟩

theorem Encode_calls (k : Int) (Ad : Option Addr) (d : List UInt8) (cd : Nat) (Ae : Option Addr) (en : List Ent) (ce : Nat) (tr : ByteArray) (Ap : Option Addr) (pa : List ByteArray) (cp : Nat) (ta na wh : ByteArray) (st : Int) (te : ByteArray) (w : World) (hd : Rd w w.heap.size 1 Ad d.length (bc d)) (he : Rd w w.heap.size 3 Ae en.length (ec en)) (hp : Rd w w.heap.size 1 Ap pa.length (pc pa)) (hel : en.length ≤ 140737488355328) (hpl : pa.length ≤ 140737488355328) (hsz : Hid (∀ p ∈ pa, p.size ≤ maxLen)) :
    Calls Tryz.prog 37 #[.agg #[.int .i64 k, .slice Ad d.length cd, .slice Ae en.length ce, .string tr, .slice Ap pa.length cp, .string ta, .string na, .string wh, .int .i64 st, .string te]] w (RetEnc w ⟨k, d, en, tr, pa, ta, na, wh, st, te⟩) := by
  cases hc : checkB geS ⟨k, d, en, tr, pa, ta, na, wh, st, te⟩ with
  | false => exact (Encode_wrong k Ad d cd Ae en ce tr Ap pa cp ta na wh st te w hd he hp hel hpl hsz (Lib.hid hc)).mono fun e w' h => ⟨h.2, .inr ⟨hc, h.1⟩⟩
  | true =>
    obtain n1 | n1 | n1 | n1 := check_kind hc
    · have n2 : k = 1 := n1
      subst n2
      exact Encode1_calls Ad d cd Ae en ce tr Ap pa cp ta na wh st te w hd he hp hel hpl hsz (Lib.hid hc)
    · have n2 : k = 2 := n1
      subst n2
      exact Encode2_calls Ad d cd Ae en ce tr Ap pa cp ta na wh st te w hd he hp hel hpl hsz (Lib.hid hc)
    · have n2 : k = 3 := n1
      subst n2
      exact Encode3_calls Ad d cd Ae en ce tr Ap pa cp ta na wh st te w hd he hp hel hpl hsz (Lib.hid hc)
    · have n2 : k = 4 := n1
      subst n2
      exact Encode4_calls Ad d cd Ae en ce tr Ap pa cp ta na wh st te w hd he hp hel hpl hsz (Lib.hid hc)
/-- The bytes of an object that may be are few. -/
theorem told_small {o : Go.Dol.Obj} (h : toldB o.who o.stamp o.text = true) : (toldL o).length ≤ 3000 := by
  obtain ⟨h1, h2, h3, h4⟩ := told_parts h
  have e1 := tx_length (s := o.who) (by omega)
  have e2 := tx_length (s := o.text) (by omega)
  have e3 := num_length_le 8 (clampN o.stamp) (by have := clampN_le o.stamp; unfold mostNum at this; omega)
  unfold toldL
  simp only [List.length_append]
  omega
theorem enc_small {o : Go.Dol.Obj} (h : checkB geS o = true) : (encO o).length ≤ 5000000000 := by
  unfold encO
  rw [List.length_cons]
  rcases check_kind h with e | e | e | e
  · rw [if_pos e]
    have := check1_parts e h
    omega
  · rw [if_neg (by omega), if_pos e]
    have h1 := ents_small (check2_parts e h)
    have h2 := (entsB_parts (check2_parts e h)).2
    have h3 := num_length_le 8 o.ents.length (by omega)
    unfold entsL
    rw [List.length_append]
    omega
  · rw [if_neg (by omega), if_neg (by omega), if_pos e]
    obtain ⟨h1, h2, h3⟩ := check3_parts e h
    have h4 := pars_small h2
    have h5 := (parsB_parts h2).2
    have h6 := num_length_le 8 o.pars.length (by omega)
    have h7 := told_small h3
    have h8 := str_len o.tree
    unfold parsN at h4
    unfold parsL
    simp only [List.length_append]
    omega
  · rw [if_neg (by omega), if_neg (by omega), if_neg (by omega)]
    obtain ⟨h1, h2, h3⟩ := check4_parts e h
    have h7 := told_small h3
    have h8 := str_len o.target
    have h9 := tx_length (s := o.name) (by omega)
    simp only [List.length_append]
    omega
end Go.Proofs.YtecpbcmpncgokaaGreat

namespace Go.Proofs.YtecpbcmpncgokaaGreat
open Go.RowKit Go.Dol
set_option linter.unusedVariables false

set_option maxRecDepth 100000 in
set_option maxHeartbeats 4000000 in
theorem bodyN_calls (q : Addr) (k : Int) (w : World) (h1 : k ≠ 1) (h2 : k ≠ 2) (h3 : k ≠ 3) (h4 : k ≠ 4) :
    Calls Tryz.prog 160 #[.pointer (some q), .int .i64 k] w fun e w' => e = .returned .nilIface ∧ Below w.heap.size w w' := by
  have hb0 : Below w.heap.size w (w.alloc (.cells #[.pointer (some q)] 222)) := (Below.refl _ _).alloc (Nat.le_refl _) _
  have d1 : (k == 1) = false := beq_eq_false_iff_ne.2 h1
  have d2 : (k == 2) = false := beq_eq_false_iff_ne.2 h2
  have d3 : (k == 3) = false := beq_eq_false_iff_ne.2 h3
  have d4 : (k == 4) = false := beq_eq_false_iff_ne.2 h4
  clear h1 h2 h3 h4
  go_enter Tryz.func160, Tryz.ntmps160
  go_wp2_with fail
  go_ret
  exact ⟨rfl, hb0⟩

/-- The object with nothing in it, as its cells. -/
def zcells : List Value := [.int .i64 0, .slice none 0 0, .slice none 0 0, .string ⟨#[]⟩, .slice none 0 0, .string ⟨#[]⟩, .string ⟨#[]⟩, .string ⟨#[]⟩, .int .i64 0, .string ⟨#[]⟩]

set_option maxRecDepth 100000 in
set_option maxHeartbeats 4000000 in
/-- Bytes whose first is no kind are no object. -/
theorem DecodeN_calls (A : Option Addr) (x : UInt8) (l : List UInt8) (n c : Nat) (w : World) (hn : n = l.length + 1) (hr : Rd w w.heap.size 1 A n (bc (x :: l))) (hc : n ≤ c) (hcm : c ≤ maxLen) (h1 : x ≠ 1) (h2 : x ≠ 2) (h3 : x ≠ 3) (h4 : x ≠ 4) :
    Calls Tryz.prog 96 #[.slice A n c] w fun e w' => e = .returned (.tuple #[.agg #[.int .i64 0, .slice none 0 0, .slice none 0 0, .string ⟨#[]⟩, .slice none 0 0, .string ⟨#[]⟩, .string ⟨#[]⟩, .string ⟨#[]⟩, .int .i64 0, .string ⟨#[]⟩], .int .i64 2]) ∧ Below w.heap.size w w' := by
  have d0 : ((n : Int) == 0) = false := beq_eq_false_iff_ne.2 (by omega)
  have hn0 : (0 : Int) < (n : Int) := by omega
  obtain ⟨m, A', c', em, jm, jm', ⟨rm, km, km'⟩, _, _, _, sm⟩ := sl_from (k := 1) (l := x :: l) (c := c) 1 rfl (by rw [List.length_cons, ← hn]; exact hr) (by simp) (by simp; omega) hcm
  rw [List.length_cons, ← hn] at sm
  obtain ⟨g, off, rfl, hg, hcell⟩ := hr.at_ (by omega)
  have hb1 : Below w.heap.size w (w.alloc (.cells #[.int .i64 0, .slice none 0 0, .slice none 0 0, .string ⟨#[]⟩, .slice none 0 0, .string ⟨#[]⟩, .string ⟨#[]⟩, .string ⟨#[]⟩, .int .i64 0, .string ⟨#[]⟩] 40)) := (Below.refl _ _).alloc (Nat.le_refl _) _
  have hb2 := hb1.alloc hb1.size (.cells #[.slice A' m.length c', .int .i64 0] 224)
  have hB1 := Blk.new w 40 zcells
  have hB2 := hB1.alloc (.cells #[.slice A' m.length c', .int .i64 0] 224)
  have hR2 := Blk.new (w.alloc (.cells #[.int .i64 0, .slice none 0 0, .slice none 0 0, .string ⟨#[]⟩, .slice none 0 0, .string ⟨#[]⟩, .string ⟨#[]⟩, .string ⟨#[]⟩, .int .i64 0, .string ⟨#[]⟩] 40)) 224 [.slice A' m.length c', .int .i64 0]
  have hx0 : ((w.alloc (.cells #[.int .i64 0, .slice none 0 0, .slice none 0 0, .string ⟨#[]⟩, .slice none 0 0, .string ⟨#[]⟩, .string ⟨#[]⟩, .string ⟨#[]⟩, .int .i64 0, .string ⟨#[]⟩] 40)).alloc (.cells #[.slice A' m.length c', .int .i64 0] 224)).cell? ⟨g, off, none⟩ = some (.int .u8 x.toNat) := by
    have := hcell 0 (.int .u8 x.toNat) rfl
    rw [← this]
    exact hb2.cell (p := ⟨g, off, none⟩) hg
  have k1 : ((x.toNat : Nat) : Int) ≠ 1 := fun e => h1 (UInt8.toNat_inj.1 (by rw [show (1 : UInt8).toNat = 1 from rfl]; omega))
  have k2 : ((x.toNat : Nat) : Int) ≠ 2 := fun e => h2 (UInt8.toNat_inj.1 (by rw [show (2 : UInt8).toNat = 2 from rfl]; omega))
  have k3 : ((x.toNat : Nat) : Int) ≠ 3 := fun e => h3 (UInt8.toNat_inj.1 (by rw [show (3 : UInt8).toNat = 3 from rfl]; omega))
  have k4 : ((x.toNat : Nat) : Int) ≠ 4 := fun e => h4 (UInt8.toNat_inj.1 (by rw [show (4 : UInt8).toNat = 4 from rfl]; omega))
  have hxl : x.toNat < 256 := x.toNat_lt
  have hwx : IntKind.i64.wrap (x.toNat : Int) = (x.toNat : Int) := IntWalk.i64_in _ (by omega)
  clear hr hcell h1 h2 h3 h4 jm jm' rm km km'
  have HN := Lib.hid hn
  clear hn
  have K1 := Lib.hid k1
  have K2 := Lib.hid k2
  have K3 := Lib.hid k3
  have K4 := Lib.hid k4
  clear k1 k2 k3 k4
  go_enter Tryz.func96, Tryz.ntmps96
  go_wp2_with ((go_at_call 160; refine (bodyN_calls _ _ _ K1.out K2.out K3.out K4.out).mono ?_; rintro e w3 ⟨rfl, hb3⟩))
  refine (madeN_calls w3).mono ?_
  rintro e w4 ⟨rfl, hb4⟩
  have hb34 := hb3.next hb4
  have hR4 := hR2.below hb34 hR2.lt
  have hB4 := hB2.below hb34 hB2.lt
  have hO := Blk.new w4 40 zcells
  obtain ⟨z0, z1, z2, z3, z4, z5, z6, z7, z8, z9⟩ := obj_cells hO
  have hzc : Hid (checkB geS ⟨0, [], [], ⟨#[]⟩, [], ⟨#[]⟩, ⟨#[]⟩, ⟨#[]⟩, 0, ⟨#[]⟩⟩ = false) := rfl
  have hE := Encode_wrong 0 none [] 0 none [] 0 ⟨#[]⟩ none [] 0 ⟨#[]⟩ ⟨#[]⟩ ⟨#[]⟩ 0 ⟨#[]⟩ (w4.alloc (.cells zcells.toArray 40)) Rd.nil Rd.nil Rd.nil (by simp) (by simp) (by unfold Hid; simp) hzc
  go_wp2_with fail
  refine hE.mono ?_
  rintro e w5 ⟨rfl, hb5⟩
  have hb45 : Below w4.heap.size w4 w5 := ((Below.refl _ _).alloc (Nat.le_refl _) _).next hb5
  have hR5 := hR4.below hb45 hR4.lt
  have hB5 := hB4.below hb45 hB4.lt
  have e1 : w5.cell? ⟨w.heap.size + 1, 1, none⟩ = some (.int .i64 0) := by
    have := hR5.cell 1
    simpa using this
  clear hE
  go_wp2_with ((refine wpList_store_blk (by rfl) _ (.tmp 2) (.tmp 43) rfl w.heap.size zcells rfl rfl 40 zcells hB5 (by kernel_rfl) rfl (by decide) ?_; intro w6 hB6 hg6))
  have hbe : Below w.heap.size w w5 := hb2.trans ((hb34.mono hb2.size).trans (hb45.mono (Nat.le_trans hb2.size hb34.size)))
  have hl := Go.run_loadVar_row (P := Tryz.prog) w6 w.heap.size 40 40 zcells.toArray (0, 0) _ hB6 Tryz.underlying40 rfl (by kernel_rfl)
  refine bodyPost_ret (v := .tuple #[.agg zcells.toArray, .int .i64 2]) ?_ rfl ⟨rfl, hbe.grown hg6 hbe.size (fun k hk => by cases hk; exact Nat.le_refl _)⟩
  simp [results, Tryz.results96, asAddr, hl]
end Go.Proofs.YtecpbcmpncgokaaGreat
