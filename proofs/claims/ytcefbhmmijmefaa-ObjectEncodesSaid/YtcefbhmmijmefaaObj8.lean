/- The walks of the layer 'object', its eighth part: are two objects the same? Conditions: lengths below 2^47. -/
import Derived.Test.YtcefbhmmijmefaaObj7
namespace Go.Proofs.Ytcefbhmmijmefaa
open Go.RowKit Go.Dol
set_option linter.unusedVariables false

/-- Whether two are one; memory may have grown. -/
def RetEqB (p : Prop) (w : World) (e : Ending) (w' : World) : Prop := ∃ v : Bool, e = .returned (.bool v) ∧ (v = true ↔ p) ∧ Below w.heap.size w w'
def ocells (k : Int) (vd ve : Value) (tr : ByteArray) (vp : Value) (ta na wh : ByteArray) (st : Int) (te : ByteArray) : List Value := [.int .i64 k, vd, ve, .string tr, vp, .string ta, .string na, .string wh, .int .i64 st, .string te]
theorem obj_cells {w : World} {g : Nat} {k : Int} {vd ve : Value} {tr : ByteArray} {vp : Value} {ta na wh : ByteArray} {st : Int} {te : ByteArray} (h : Blk w g 43 (ocells k vd ve tr vp ta na wh st te)) :
    w.cell? ⟨g, 0, none⟩ = some (.int .i64 k) ∧ w.cell? ⟨g, 1, none⟩ = some vd ∧ w.cell? ⟨g, 2, none⟩ = some ve ∧ w.cell? ⟨g, 3, none⟩ = some (.string tr) ∧ w.cell? ⟨g, 4, none⟩ = some vp ∧ w.cell? ⟨g, 5, none⟩ = some (.string ta) ∧ w.cell? ⟨g, 6, none⟩ = some (.string na) ∧ w.cell? ⟨g, 7, none⟩ = some (.string wh) ∧ w.cell? ⟨g, 8, none⟩ = some (.int .i64 st) ∧ w.cell? ⟨g, 9, none⟩ = some (.string te) :=
  ⟨by rw [h.cell]; rfl, by rw [h.cell]; rfl, by rw [h.cell]; rfl, by rw [h.cell]; rfl, by rw [h.cell]; rfl, by rw [h.cell]; rfl, by rw [h.cell]; rfl, by rw [h.cell]; rfl, by rw [h.cell]; rfl, by rw [h.cell]; rfl⟩
theorem EqualE_t (A : Option Addr) (a : List Ent) (c : Nat) (A2 : Option Addr) (b : List Ent) (c2 : Nat) (w : World) (B : Nat) (hr : Rd w B 3 A a.length (ec a)) (hr2 : Rd w B 3 A2 b.length (ec b)) (ha : a.length ≤ 140737488355328) (hb : b.length ≤ 140737488355328) (hv : Hid (a = b)) :
    Calls Try.prog 79 #[.slice A a.length c, .slice A2 b.length c2] w fun e w' => e = .returned (.bool true) ∧ ∃ n, w' = w.drewN n :=
  (EqualE_calls A a c A2 b c2 w B B hr hr2 ha hb).mono fun e w' ⟨u, n, h1, h2, h3⟩ => ⟨by rw [h1, show u = true from h2.2 hv.out], n, h3⟩
theorem EqualE_f (A : Option Addr) (a : List Ent) (c : Nat) (A2 : Option Addr) (b : List Ent) (c2 : Nat) (w : World) (B : Nat) (hr : Rd w B 3 A a.length (ec a)) (hr2 : Rd w B 3 A2 b.length (ec b)) (ha : a.length ≤ 140737488355328) (hb : b.length ≤ 140737488355328) (hv : Hid (¬ a = b)) :
    Calls Try.prog 79 #[.slice A a.length c, .slice A2 b.length c2] w fun e w' => e = .returned (.bool false) ∧ ∃ n, w' = w.drewN n :=
  (EqualE_calls A a c A2 b c2 w B B hr hr2 ha hb).mono fun e w' ⟨u, n, h1, h2, h3⟩ => ⟨by rw [h1, show u = false from Bool.eq_false_iff.2 fun e => hv.out (h2.1 e)], n, h3⟩
theorem EqualS_t (A : Option Addr) (a : List ByteArray) (c : Nat) (A2 : Option Addr) (b : List ByteArray) (c2 : Nat) (w : World) (B : Nat) (hr : Rd w B 1 A a.length (pc a)) (hr2 : Rd w B 1 A2 b.length (pc b)) (ha : a.length ≤ 140737488355328) (hb : b.length ≤ 140737488355328) (hv : Hid (a = b)) :
    Calls Try.prog 80 #[.slice A a.length c, .slice A2 b.length c2] w fun e w' => e = .returned (.bool true) ∧ ∃ n, w' = w.drewN n :=
  (EqualS_calls A a c A2 b c2 w B B hr hr2 ha hb).mono fun e w' ⟨u, n, h1, h2, h3⟩ => ⟨by rw [h1, show u = true from h2.2 hv.out], n, h3⟩
theorem EqualS_f (A : Option Addr) (a : List ByteArray) (c : Nat) (A2 : Option Addr) (b : List ByteArray) (c2 : Nat) (w : World) (B : Nat) (hr : Rd w B 1 A a.length (pc a)) (hr2 : Rd w B 1 A2 b.length (pc b)) (ha : a.length ≤ 140737488355328) (hb : b.length ≤ 140737488355328) (hv : Hid (¬ a = b)) :
    Calls Try.prog 80 #[.slice A a.length c, .slice A2 b.length c2] w fun e w' => e = .returned (.bool false) ∧ ∃ n, w' = w.drewN n :=
  (EqualS_calls A a c A2 b c2 w B B hr hr2 ha hb).mono fun e w' ⟨u, n, h1, h2, h3⟩ => ⟨by rw [h1, show u = false from Bool.eq_false_iff.2 fun e => hv.out (h2.1 e)], n, h3⟩
theorem str_eq_b {x y : ByteArray} (h : x = y) : (x.toList == y.toList) = true := by subst h; exact beq_iff_eq.2 rfl
theorem str_ne_b {x y : ByteArray} (h : ¬ x = y) : (x.toList == y.toList) = false := beq_eq_false_iff_ne.2 fun e => h (str_inj e)

set_option maxRecDepth 100000 in
set_option maxHeartbeats 4000000 in
theorem same_0 (k : Int) (Ad : Option Addr) (d : List UInt8) (cd : Nat) (Ae : Option Addr) (en : List Ent) (ce : Nat) (tr : ByteArray) (Ap : Option Addr) (pa : List ByteArray) (cp : Nat) (ta na wh : ByteArray) (st : Int) (te : ByteArray) (k2 : Int) (Ad2 : Option Addr) (d2 : List UInt8) (cd2 : Nat) (Ae2 : Option Addr) (en2 : List Ent) (ce2 : Nat) (tr2 : ByteArray) (Ap2 : Option Addr) (pa2 : List ByteArray) (cp2 : Nat) (ta2 na2 wh2 : ByteArray) (st2 : Int) (te2 : ByteArray) (w : World) (hd : Rd w w.heap.size 1 Ad d.length (bc d)) (he : Rd w w.heap.size 3 Ae en.length (ec en)) (hp : Rd w w.heap.size 1 Ap pa.length (pc pa)) (hel : en.length ≤ 140737488355328) (hpl : pa.length ≤ 140737488355328) (hd2 : Rd w w.heap.size 1 Ad2 d2.length (bc d2)) (he2 : Rd w w.heap.size 3 Ae2 en2.length (ec en2)) (hp2 : Rd w w.heap.size 1 Ap2 pa2.length (pc pa2)) (hel2 : en2.length ≤ 140737488355328) (hpl2 : pa2.length ≤ 140737488355328)  (h0 : ¬ (k = k2)) :
    Calls Try.prog 66 #[.agg #[.int .i64 k, .slice Ad d.length cd, .slice Ae en.length ce, .string tr, .slice Ap pa.length cp, .string ta, .string na, .string wh, .int .i64 st, .string te], .agg #[.int .i64 k2, .slice Ad2 d2.length cd2, .slice Ae2 en2.length ce2, .string tr2, .slice Ap2 pa2.length cp2, .string ta2, .string na2, .string wh2, .int .i64 st2, .string te2]] w (RetEqB (k = k2 ∧ d = d2 ∧ en = en2 ∧ tr = tr2 ∧ pa = pa2 ∧ ta = ta2 ∧ na = na2 ∧ wh = wh2 ∧ st = st2 ∧ te = te2) w) := by
  have hb : Below w.heap.size w ((w.alloc (.cells #[.int .i64 k, .slice Ad d.length cd, .slice Ae en.length ce, .string tr, .slice Ap pa.length cp, .string ta, .string na, .string wh, .int .i64 st, .string te] 43)).alloc (.cells #[.int .i64 k2, .slice Ad2 d2.length cd2, .slice Ae2 en2.length ce2, .string tr2, .slice Ap2 pa2.length cp2, .string ta2, .string na2, .string wh2, .int .i64 st2, .string te2] 43)) := ((Below.refl _ _).alloc (Nat.le_refl _) _).alloc (by simp) _
  have hv1 : (convert 22 9 (.slice Ad d.length cd)).run Try.prog ((w.alloc (.cells #[.int .i64 k, .slice Ad d.length cd, .slice Ae en.length ce, .string tr, .slice Ap pa.length cp, .string ta, .string na, .string wh, .int .i64 st, .string te] 43)).alloc (.cells #[.int .i64 k2, .slice Ad2 d2.length cd2, .slice Ae2 en2.length ce2, .string tr2, .slice Ap2 pa2.length cp2, .string ta2, .string na2, .string wh2, .int .i64 st2, .string te2] 43)) = .ok (.string ⟨d.toArray⟩) ((w.alloc (.cells #[.int .i64 k, .slice Ad d.length cd, .slice Ae en.length ce, .string tr, .slice Ap pa.length cp, .string ta, .string na, .string wh, .int .i64 st, .string te] 43)).alloc (.cells #[.int .i64 k2, .slice Ad2 d2.length cd2, .slice Ae2 en2.length ce2, .string tr2, .slice Ap2 pa2.length cp2, .string ta2, .string na2, .string wh2, .int .i64 st2, .string te2] 43)) := conv8f (hd.alive hb)
  have hv2 : (convert 22 9 (.slice Ad2 d2.length cd2)).run Try.prog ((w.alloc (.cells #[.int .i64 k, .slice Ad d.length cd, .slice Ae en.length ce, .string tr, .slice Ap pa.length cp, .string ta, .string na, .string wh, .int .i64 st, .string te] 43)).alloc (.cells #[.int .i64 k2, .slice Ad2 d2.length cd2, .slice Ae2 en2.length ce2, .string tr2, .slice Ap2 pa2.length cp2, .string ta2, .string na2, .string wh2, .int .i64 st2, .string te2] 43)) = .ok (.string ⟨d2.toArray⟩) ((w.alloc (.cells #[.int .i64 k, .slice Ad d.length cd, .slice Ae en.length ce, .string tr, .slice Ap pa.length cp, .string ta, .string na, .string wh, .int .i64 st, .string te] 43)).alloc (.cells #[.int .i64 k2, .slice Ad2 d2.length cd2, .slice Ae2 en2.length ce2, .string tr2, .slice Ap2 pa2.length cp2, .string ta2, .string na2, .string wh2, .int .i64 st2, .string te2] 43)) := conv8f (hd2.alive hb)
  have re := he.below hb
  have re2 := he2.below hb
  have rp := hp.below hb
  have rp2 := hp2.below hb
  have g0 : (k == k2) = false := beq_eq_false_iff_ne.2 h0
  have HP : Hid (¬ (k = k2 ∧ d = d2 ∧ en = en2 ∧ tr = tr2 ∧ pa = pa2 ∧ ta = ta2 ∧ na = na2 ∧ wh = wh2 ∧ st = st2 ∧ te = te2)) := fun h => h0 h.1
  clear hd hd2 he he2 hp hp2 h0
  go_enter Try.func66, Try.ntmps66
  go_wp2_with (fail)
  go_ret
  exact ⟨false, rfl, by simp [HP.out], by first | exact hb | exact hb.drewN' _ | exact (hb.drewN' _).drewN' _⟩

set_option maxRecDepth 100000 in
set_option maxHeartbeats 4000000 in
theorem same_1 (k : Int) (Ad : Option Addr) (d : List UInt8) (cd : Nat) (Ae : Option Addr) (en : List Ent) (ce : Nat) (tr : ByteArray) (Ap : Option Addr) (pa : List ByteArray) (cp : Nat) (ta na wh : ByteArray) (st : Int) (te : ByteArray) (k2 : Int) (Ad2 : Option Addr) (d2 : List UInt8) (cd2 : Nat) (Ae2 : Option Addr) (en2 : List Ent) (ce2 : Nat) (tr2 : ByteArray) (Ap2 : Option Addr) (pa2 : List ByteArray) (cp2 : Nat) (ta2 na2 wh2 : ByteArray) (st2 : Int) (te2 : ByteArray) (w : World) (hd : Rd w w.heap.size 1 Ad d.length (bc d)) (he : Rd w w.heap.size 3 Ae en.length (ec en)) (hp : Rd w w.heap.size 1 Ap pa.length (pc pa)) (hel : en.length ≤ 140737488355328) (hpl : pa.length ≤ 140737488355328) (hd2 : Rd w w.heap.size 1 Ad2 d2.length (bc d2)) (he2 : Rd w w.heap.size 3 Ae2 en2.length (ec en2)) (hp2 : Rd w w.heap.size 1 Ap2 pa2.length (pc pa2)) (hel2 : en2.length ≤ 140737488355328) (hpl2 : pa2.length ≤ 140737488355328) (h0 : k = k2) (h1 : ¬ (d = d2)) :
    Calls Try.prog 66 #[.agg #[.int .i64 k, .slice Ad d.length cd, .slice Ae en.length ce, .string tr, .slice Ap pa.length cp, .string ta, .string na, .string wh, .int .i64 st, .string te], .agg #[.int .i64 k2, .slice Ad2 d2.length cd2, .slice Ae2 en2.length ce2, .string tr2, .slice Ap2 pa2.length cp2, .string ta2, .string na2, .string wh2, .int .i64 st2, .string te2]] w (RetEqB (k = k2 ∧ d = d2 ∧ en = en2 ∧ tr = tr2 ∧ pa = pa2 ∧ ta = ta2 ∧ na = na2 ∧ wh = wh2 ∧ st = st2 ∧ te = te2) w) := by
  have hb : Below w.heap.size w ((w.alloc (.cells #[.int .i64 k, .slice Ad d.length cd, .slice Ae en.length ce, .string tr, .slice Ap pa.length cp, .string ta, .string na, .string wh, .int .i64 st, .string te] 43)).alloc (.cells #[.int .i64 k2, .slice Ad2 d2.length cd2, .slice Ae2 en2.length ce2, .string tr2, .slice Ap2 pa2.length cp2, .string ta2, .string na2, .string wh2, .int .i64 st2, .string te2] 43)) := ((Below.refl _ _).alloc (Nat.le_refl _) _).alloc (by simp) _
  have hv1 : (convert 22 9 (.slice Ad d.length cd)).run Try.prog ((w.alloc (.cells #[.int .i64 k, .slice Ad d.length cd, .slice Ae en.length ce, .string tr, .slice Ap pa.length cp, .string ta, .string na, .string wh, .int .i64 st, .string te] 43)).alloc (.cells #[.int .i64 k2, .slice Ad2 d2.length cd2, .slice Ae2 en2.length ce2, .string tr2, .slice Ap2 pa2.length cp2, .string ta2, .string na2, .string wh2, .int .i64 st2, .string te2] 43)) = .ok (.string ⟨d.toArray⟩) ((w.alloc (.cells #[.int .i64 k, .slice Ad d.length cd, .slice Ae en.length ce, .string tr, .slice Ap pa.length cp, .string ta, .string na, .string wh, .int .i64 st, .string te] 43)).alloc (.cells #[.int .i64 k2, .slice Ad2 d2.length cd2, .slice Ae2 en2.length ce2, .string tr2, .slice Ap2 pa2.length cp2, .string ta2, .string na2, .string wh2, .int .i64 st2, .string te2] 43)) := conv8f (hd.alive hb)
  have hv2 : (convert 22 9 (.slice Ad2 d2.length cd2)).run Try.prog ((w.alloc (.cells #[.int .i64 k, .slice Ad d.length cd, .slice Ae en.length ce, .string tr, .slice Ap pa.length cp, .string ta, .string na, .string wh, .int .i64 st, .string te] 43)).alloc (.cells #[.int .i64 k2, .slice Ad2 d2.length cd2, .slice Ae2 en2.length ce2, .string tr2, .slice Ap2 pa2.length cp2, .string ta2, .string na2, .string wh2, .int .i64 st2, .string te2] 43)) = .ok (.string ⟨d2.toArray⟩) ((w.alloc (.cells #[.int .i64 k, .slice Ad d.length cd, .slice Ae en.length ce, .string tr, .slice Ap pa.length cp, .string ta, .string na, .string wh, .int .i64 st, .string te] 43)).alloc (.cells #[.int .i64 k2, .slice Ad2 d2.length cd2, .slice Ae2 en2.length ce2, .string tr2, .slice Ap2 pa2.length cp2, .string ta2, .string na2, .string wh2, .int .i64 st2, .string te2] 43)) := conv8f (hd2.alive hb)
  have re := he.below hb
  have re2 := he2.below hb
  have rp := hp.below hb
  have rp2 := hp2.below hb
  have g0 : (k == k2) = true := beq_iff_eq.2 h0
  have g1 : (d == d2) = false := beq_eq_false_iff_ne.2 h1
  have HP : Hid (¬ (k = k2 ∧ d = d2 ∧ en = en2 ∧ tr = tr2 ∧ pa = pa2 ∧ ta = ta2 ∧ na = na2 ∧ wh = wh2 ∧ st = st2 ∧ te = te2)) := fun h => h1 h.2.1
  clear hd hd2 he he2 hp hp2 h0 h1
  go_enter Try.func66, Try.ntmps66
  go_wp2_with (fail)
  go_ret
  exact ⟨false, rfl, by simp [HP.out], by first | exact hb | exact hb.drewN' _ | exact (hb.drewN' _).drewN' _⟩

set_option maxRecDepth 100000 in
set_option maxHeartbeats 4000000 in
theorem same_2 (k : Int) (Ad : Option Addr) (d : List UInt8) (cd : Nat) (Ae : Option Addr) (en : List Ent) (ce : Nat) (tr : ByteArray) (Ap : Option Addr) (pa : List ByteArray) (cp : Nat) (ta na wh : ByteArray) (st : Int) (te : ByteArray) (k2 : Int) (Ad2 : Option Addr) (d2 : List UInt8) (cd2 : Nat) (Ae2 : Option Addr) (en2 : List Ent) (ce2 : Nat) (tr2 : ByteArray) (Ap2 : Option Addr) (pa2 : List ByteArray) (cp2 : Nat) (ta2 na2 wh2 : ByteArray) (st2 : Int) (te2 : ByteArray) (w : World) (hd : Rd w w.heap.size 1 Ad d.length (bc d)) (he : Rd w w.heap.size 3 Ae en.length (ec en)) (hp : Rd w w.heap.size 1 Ap pa.length (pc pa)) (hel : en.length ≤ 140737488355328) (hpl : pa.length ≤ 140737488355328) (hd2 : Rd w w.heap.size 1 Ad2 d2.length (bc d2)) (he2 : Rd w w.heap.size 3 Ae2 en2.length (ec en2)) (hp2 : Rd w w.heap.size 1 Ap2 pa2.length (pc pa2)) (hel2 : en2.length ≤ 140737488355328) (hpl2 : pa2.length ≤ 140737488355328) (h0 : k = k2) (h1 : d = d2) (h2 : ¬ (en = en2)) :
    Calls Try.prog 66 #[.agg #[.int .i64 k, .slice Ad d.length cd, .slice Ae en.length ce, .string tr, .slice Ap pa.length cp, .string ta, .string na, .string wh, .int .i64 st, .string te], .agg #[.int .i64 k2, .slice Ad2 d2.length cd2, .slice Ae2 en2.length ce2, .string tr2, .slice Ap2 pa2.length cp2, .string ta2, .string na2, .string wh2, .int .i64 st2, .string te2]] w (RetEqB (k = k2 ∧ d = d2 ∧ en = en2 ∧ tr = tr2 ∧ pa = pa2 ∧ ta = ta2 ∧ na = na2 ∧ wh = wh2 ∧ st = st2 ∧ te = te2) w) := by
  have hb : Below w.heap.size w ((w.alloc (.cells #[.int .i64 k, .slice Ad d.length cd, .slice Ae en.length ce, .string tr, .slice Ap pa.length cp, .string ta, .string na, .string wh, .int .i64 st, .string te] 43)).alloc (.cells #[.int .i64 k2, .slice Ad2 d2.length cd2, .slice Ae2 en2.length ce2, .string tr2, .slice Ap2 pa2.length cp2, .string ta2, .string na2, .string wh2, .int .i64 st2, .string te2] 43)) := ((Below.refl _ _).alloc (Nat.le_refl _) _).alloc (by simp) _
  have hv1 : (convert 22 9 (.slice Ad d.length cd)).run Try.prog ((w.alloc (.cells #[.int .i64 k, .slice Ad d.length cd, .slice Ae en.length ce, .string tr, .slice Ap pa.length cp, .string ta, .string na, .string wh, .int .i64 st, .string te] 43)).alloc (.cells #[.int .i64 k2, .slice Ad2 d2.length cd2, .slice Ae2 en2.length ce2, .string tr2, .slice Ap2 pa2.length cp2, .string ta2, .string na2, .string wh2, .int .i64 st2, .string te2] 43)) = .ok (.string ⟨d.toArray⟩) ((w.alloc (.cells #[.int .i64 k, .slice Ad d.length cd, .slice Ae en.length ce, .string tr, .slice Ap pa.length cp, .string ta, .string na, .string wh, .int .i64 st, .string te] 43)).alloc (.cells #[.int .i64 k2, .slice Ad2 d2.length cd2, .slice Ae2 en2.length ce2, .string tr2, .slice Ap2 pa2.length cp2, .string ta2, .string na2, .string wh2, .int .i64 st2, .string te2] 43)) := conv8f (hd.alive hb)
  have hv2 : (convert 22 9 (.slice Ad2 d2.length cd2)).run Try.prog ((w.alloc (.cells #[.int .i64 k, .slice Ad d.length cd, .slice Ae en.length ce, .string tr, .slice Ap pa.length cp, .string ta, .string na, .string wh, .int .i64 st, .string te] 43)).alloc (.cells #[.int .i64 k2, .slice Ad2 d2.length cd2, .slice Ae2 en2.length ce2, .string tr2, .slice Ap2 pa2.length cp2, .string ta2, .string na2, .string wh2, .int .i64 st2, .string te2] 43)) = .ok (.string ⟨d2.toArray⟩) ((w.alloc (.cells #[.int .i64 k, .slice Ad d.length cd, .slice Ae en.length ce, .string tr, .slice Ap pa.length cp, .string ta, .string na, .string wh, .int .i64 st, .string te] 43)).alloc (.cells #[.int .i64 k2, .slice Ad2 d2.length cd2, .slice Ae2 en2.length ce2, .string tr2, .slice Ap2 pa2.length cp2, .string ta2, .string na2, .string wh2, .int .i64 st2, .string te2] 43)) := conv8f (hd2.alive hb)
  have re := he.below hb
  have re2 := he2.below hb
  have rp := hp.below hb
  have rp2 := hp2.below hb
  have g0 : (k == k2) = true := beq_iff_eq.2 h0
  have g1 : (d == d2) = true := beq_iff_eq.2 h1
  have HE : Hid (¬ (en = en2)) := h2
  have HP : Hid (¬ (k = k2 ∧ d = d2 ∧ en = en2 ∧ tr = tr2 ∧ pa = pa2 ∧ ta = ta2 ∧ na = na2 ∧ wh = wh2 ∧ st = st2 ∧ te = te2)) := fun h => h2 h.2.2.1
  clear hd hd2 he he2 hp hp2 h0 h1 h2
  go_enter Try.func66, Try.ntmps66
  go_wp2_with (first | (go_at_call 79; (with_reducible refine (EqualE_f Ae en ce Ae2 en2 ce2 _ w.heap.size re re2 hel hel2 HE).mono ?_); rintro e w3 ⟨rfl, n3, rfl⟩))
  go_ret
  exact ⟨false, rfl, by simp [HP.out], by first | exact hb | exact hb.drewN' _ | exact (hb.drewN' _).drewN' _⟩

set_option maxRecDepth 100000 in
set_option maxHeartbeats 4000000 in
theorem same_3 (k : Int) (Ad : Option Addr) (d : List UInt8) (cd : Nat) (Ae : Option Addr) (en : List Ent) (ce : Nat) (tr : ByteArray) (Ap : Option Addr) (pa : List ByteArray) (cp : Nat) (ta na wh : ByteArray) (st : Int) (te : ByteArray) (k2 : Int) (Ad2 : Option Addr) (d2 : List UInt8) (cd2 : Nat) (Ae2 : Option Addr) (en2 : List Ent) (ce2 : Nat) (tr2 : ByteArray) (Ap2 : Option Addr) (pa2 : List ByteArray) (cp2 : Nat) (ta2 na2 wh2 : ByteArray) (st2 : Int) (te2 : ByteArray) (w : World) (hd : Rd w w.heap.size 1 Ad d.length (bc d)) (he : Rd w w.heap.size 3 Ae en.length (ec en)) (hp : Rd w w.heap.size 1 Ap pa.length (pc pa)) (hel : en.length ≤ 140737488355328) (hpl : pa.length ≤ 140737488355328) (hd2 : Rd w w.heap.size 1 Ad2 d2.length (bc d2)) (he2 : Rd w w.heap.size 3 Ae2 en2.length (ec en2)) (hp2 : Rd w w.heap.size 1 Ap2 pa2.length (pc pa2)) (hel2 : en2.length ≤ 140737488355328) (hpl2 : pa2.length ≤ 140737488355328) (h0 : k = k2) (h1 : d = d2) (h2 : en = en2) (h3 : ¬ (tr = tr2)) :
    Calls Try.prog 66 #[.agg #[.int .i64 k, .slice Ad d.length cd, .slice Ae en.length ce, .string tr, .slice Ap pa.length cp, .string ta, .string na, .string wh, .int .i64 st, .string te], .agg #[.int .i64 k2, .slice Ad2 d2.length cd2, .slice Ae2 en2.length ce2, .string tr2, .slice Ap2 pa2.length cp2, .string ta2, .string na2, .string wh2, .int .i64 st2, .string te2]] w (RetEqB (k = k2 ∧ d = d2 ∧ en = en2 ∧ tr = tr2 ∧ pa = pa2 ∧ ta = ta2 ∧ na = na2 ∧ wh = wh2 ∧ st = st2 ∧ te = te2) w) := by
  have hb : Below w.heap.size w ((w.alloc (.cells #[.int .i64 k, .slice Ad d.length cd, .slice Ae en.length ce, .string tr, .slice Ap pa.length cp, .string ta, .string na, .string wh, .int .i64 st, .string te] 43)).alloc (.cells #[.int .i64 k2, .slice Ad2 d2.length cd2, .slice Ae2 en2.length ce2, .string tr2, .slice Ap2 pa2.length cp2, .string ta2, .string na2, .string wh2, .int .i64 st2, .string te2] 43)) := ((Below.refl _ _).alloc (Nat.le_refl _) _).alloc (by simp) _
  have hv1 : (convert 22 9 (.slice Ad d.length cd)).run Try.prog ((w.alloc (.cells #[.int .i64 k, .slice Ad d.length cd, .slice Ae en.length ce, .string tr, .slice Ap pa.length cp, .string ta, .string na, .string wh, .int .i64 st, .string te] 43)).alloc (.cells #[.int .i64 k2, .slice Ad2 d2.length cd2, .slice Ae2 en2.length ce2, .string tr2, .slice Ap2 pa2.length cp2, .string ta2, .string na2, .string wh2, .int .i64 st2, .string te2] 43)) = .ok (.string ⟨d.toArray⟩) ((w.alloc (.cells #[.int .i64 k, .slice Ad d.length cd, .slice Ae en.length ce, .string tr, .slice Ap pa.length cp, .string ta, .string na, .string wh, .int .i64 st, .string te] 43)).alloc (.cells #[.int .i64 k2, .slice Ad2 d2.length cd2, .slice Ae2 en2.length ce2, .string tr2, .slice Ap2 pa2.length cp2, .string ta2, .string na2, .string wh2, .int .i64 st2, .string te2] 43)) := conv8f (hd.alive hb)
  have hv2 : (convert 22 9 (.slice Ad2 d2.length cd2)).run Try.prog ((w.alloc (.cells #[.int .i64 k, .slice Ad d.length cd, .slice Ae en.length ce, .string tr, .slice Ap pa.length cp, .string ta, .string na, .string wh, .int .i64 st, .string te] 43)).alloc (.cells #[.int .i64 k2, .slice Ad2 d2.length cd2, .slice Ae2 en2.length ce2, .string tr2, .slice Ap2 pa2.length cp2, .string ta2, .string na2, .string wh2, .int .i64 st2, .string te2] 43)) = .ok (.string ⟨d2.toArray⟩) ((w.alloc (.cells #[.int .i64 k, .slice Ad d.length cd, .slice Ae en.length ce, .string tr, .slice Ap pa.length cp, .string ta, .string na, .string wh, .int .i64 st, .string te] 43)).alloc (.cells #[.int .i64 k2, .slice Ad2 d2.length cd2, .slice Ae2 en2.length ce2, .string tr2, .slice Ap2 pa2.length cp2, .string ta2, .string na2, .string wh2, .int .i64 st2, .string te2] 43)) := conv8f (hd2.alive hb)
  have re := he.below hb
  have re2 := he2.below hb
  have rp := hp.below hb
  have rp2 := hp2.below hb
  have g0 : (k == k2) = true := beq_iff_eq.2 h0
  have g1 : (d == d2) = true := beq_iff_eq.2 h1
  have HE : Hid (en = en2) := h2
  have g3 : (tr.toList == tr2.toList) = false := str_ne_b h3
  have HP : Hid (¬ (k = k2 ∧ d = d2 ∧ en = en2 ∧ tr = tr2 ∧ pa = pa2 ∧ ta = ta2 ∧ na = na2 ∧ wh = wh2 ∧ st = st2 ∧ te = te2)) := fun h => h3 h.2.2.2.1
  clear hd hd2 he he2 hp hp2 h0 h1 h2 h3
  go_enter Try.func66, Try.ntmps66
  go_wp2_with (first | (go_at_call 79; (with_reducible refine (EqualE_t Ae en ce Ae2 en2 ce2 _ w.heap.size re re2 hel hel2 HE).mono ?_); rintro e w3 ⟨rfl, n3, rfl⟩))
  go_ret
  exact ⟨false, rfl, by simp [HP.out], by first | exact hb | exact hb.drewN' _ | exact (hb.drewN' _).drewN' _⟩

set_option maxRecDepth 100000 in
set_option maxHeartbeats 4000000 in
theorem same_4 (k : Int) (Ad : Option Addr) (d : List UInt8) (cd : Nat) (Ae : Option Addr) (en : List Ent) (ce : Nat) (tr : ByteArray) (Ap : Option Addr) (pa : List ByteArray) (cp : Nat) (ta na wh : ByteArray) (st : Int) (te : ByteArray) (k2 : Int) (Ad2 : Option Addr) (d2 : List UInt8) (cd2 : Nat) (Ae2 : Option Addr) (en2 : List Ent) (ce2 : Nat) (tr2 : ByteArray) (Ap2 : Option Addr) (pa2 : List ByteArray) (cp2 : Nat) (ta2 na2 wh2 : ByteArray) (st2 : Int) (te2 : ByteArray) (w : World) (hd : Rd w w.heap.size 1 Ad d.length (bc d)) (he : Rd w w.heap.size 3 Ae en.length (ec en)) (hp : Rd w w.heap.size 1 Ap pa.length (pc pa)) (hel : en.length ≤ 140737488355328) (hpl : pa.length ≤ 140737488355328) (hd2 : Rd w w.heap.size 1 Ad2 d2.length (bc d2)) (he2 : Rd w w.heap.size 3 Ae2 en2.length (ec en2)) (hp2 : Rd w w.heap.size 1 Ap2 pa2.length (pc pa2)) (hel2 : en2.length ≤ 140737488355328) (hpl2 : pa2.length ≤ 140737488355328) (h0 : k = k2) (h1 : d = d2) (h2 : en = en2) (h3 : tr = tr2) (h4 : ¬ (pa = pa2)) :
    Calls Try.prog 66 #[.agg #[.int .i64 k, .slice Ad d.length cd, .slice Ae en.length ce, .string tr, .slice Ap pa.length cp, .string ta, .string na, .string wh, .int .i64 st, .string te], .agg #[.int .i64 k2, .slice Ad2 d2.length cd2, .slice Ae2 en2.length ce2, .string tr2, .slice Ap2 pa2.length cp2, .string ta2, .string na2, .string wh2, .int .i64 st2, .string te2]] w (RetEqB (k = k2 ∧ d = d2 ∧ en = en2 ∧ tr = tr2 ∧ pa = pa2 ∧ ta = ta2 ∧ na = na2 ∧ wh = wh2 ∧ st = st2 ∧ te = te2) w) := by
  have hb : Below w.heap.size w ((w.alloc (.cells #[.int .i64 k, .slice Ad d.length cd, .slice Ae en.length ce, .string tr, .slice Ap pa.length cp, .string ta, .string na, .string wh, .int .i64 st, .string te] 43)).alloc (.cells #[.int .i64 k2, .slice Ad2 d2.length cd2, .slice Ae2 en2.length ce2, .string tr2, .slice Ap2 pa2.length cp2, .string ta2, .string na2, .string wh2, .int .i64 st2, .string te2] 43)) := ((Below.refl _ _).alloc (Nat.le_refl _) _).alloc (by simp) _
  have hv1 : (convert 22 9 (.slice Ad d.length cd)).run Try.prog ((w.alloc (.cells #[.int .i64 k, .slice Ad d.length cd, .slice Ae en.length ce, .string tr, .slice Ap pa.length cp, .string ta, .string na, .string wh, .int .i64 st, .string te] 43)).alloc (.cells #[.int .i64 k2, .slice Ad2 d2.length cd2, .slice Ae2 en2.length ce2, .string tr2, .slice Ap2 pa2.length cp2, .string ta2, .string na2, .string wh2, .int .i64 st2, .string te2] 43)) = .ok (.string ⟨d.toArray⟩) ((w.alloc (.cells #[.int .i64 k, .slice Ad d.length cd, .slice Ae en.length ce, .string tr, .slice Ap pa.length cp, .string ta, .string na, .string wh, .int .i64 st, .string te] 43)).alloc (.cells #[.int .i64 k2, .slice Ad2 d2.length cd2, .slice Ae2 en2.length ce2, .string tr2, .slice Ap2 pa2.length cp2, .string ta2, .string na2, .string wh2, .int .i64 st2, .string te2] 43)) := conv8f (hd.alive hb)
  have hv2 : (convert 22 9 (.slice Ad2 d2.length cd2)).run Try.prog ((w.alloc (.cells #[.int .i64 k, .slice Ad d.length cd, .slice Ae en.length ce, .string tr, .slice Ap pa.length cp, .string ta, .string na, .string wh, .int .i64 st, .string te] 43)).alloc (.cells #[.int .i64 k2, .slice Ad2 d2.length cd2, .slice Ae2 en2.length ce2, .string tr2, .slice Ap2 pa2.length cp2, .string ta2, .string na2, .string wh2, .int .i64 st2, .string te2] 43)) = .ok (.string ⟨d2.toArray⟩) ((w.alloc (.cells #[.int .i64 k, .slice Ad d.length cd, .slice Ae en.length ce, .string tr, .slice Ap pa.length cp, .string ta, .string na, .string wh, .int .i64 st, .string te] 43)).alloc (.cells #[.int .i64 k2, .slice Ad2 d2.length cd2, .slice Ae2 en2.length ce2, .string tr2, .slice Ap2 pa2.length cp2, .string ta2, .string na2, .string wh2, .int .i64 st2, .string te2] 43)) := conv8f (hd2.alive hb)
  have re := he.below hb
  have re2 := he2.below hb
  have rp := hp.below hb
  have rp2 := hp2.below hb
  have g0 : (k == k2) = true := beq_iff_eq.2 h0
  have g1 : (d == d2) = true := beq_iff_eq.2 h1
  have HE : Hid (en = en2) := h2
  have g3 : (tr.toList == tr2.toList) = true := str_eq_b h3
  have HS : Hid (¬ (pa = pa2)) := h4
  have HP : Hid (¬ (k = k2 ∧ d = d2 ∧ en = en2 ∧ tr = tr2 ∧ pa = pa2 ∧ ta = ta2 ∧ na = na2 ∧ wh = wh2 ∧ st = st2 ∧ te = te2)) := fun h => h4 h.2.2.2.2.1
  clear hd hd2 he he2 hp hp2 h0 h1 h2 h3 h4
  go_enter Try.func66, Try.ntmps66
  go_wp2_with (first | (go_at_call 79; (with_reducible refine (EqualE_t Ae en ce Ae2 en2 ce2 _ w.heap.size re re2 hel hel2 HE).mono ?_); rintro e w3 ⟨rfl, n3, rfl⟩) | (go_at_call 80; have rp3 := rp.drewN n3; have rp32 := rp2.drewN n3; (with_reducible refine (EqualS_f Ap pa cp Ap2 pa2 cp2 _ w.heap.size rp3 rp32 hpl hpl2 HS).mono ?_); rintro e w4 ⟨rfl, n4, rfl⟩))
  go_ret
  exact ⟨false, rfl, by simp [HP.out], by first | exact hb | exact hb.drewN' _ | exact (hb.drewN' _).drewN' _⟩

set_option maxRecDepth 100000 in
set_option maxHeartbeats 4000000 in
theorem same_5 (k : Int) (Ad : Option Addr) (d : List UInt8) (cd : Nat) (Ae : Option Addr) (en : List Ent) (ce : Nat) (tr : ByteArray) (Ap : Option Addr) (pa : List ByteArray) (cp : Nat) (ta na wh : ByteArray) (st : Int) (te : ByteArray) (k2 : Int) (Ad2 : Option Addr) (d2 : List UInt8) (cd2 : Nat) (Ae2 : Option Addr) (en2 : List Ent) (ce2 : Nat) (tr2 : ByteArray) (Ap2 : Option Addr) (pa2 : List ByteArray) (cp2 : Nat) (ta2 na2 wh2 : ByteArray) (st2 : Int) (te2 : ByteArray) (w : World) (hd : Rd w w.heap.size 1 Ad d.length (bc d)) (he : Rd w w.heap.size 3 Ae en.length (ec en)) (hp : Rd w w.heap.size 1 Ap pa.length (pc pa)) (hel : en.length ≤ 140737488355328) (hpl : pa.length ≤ 140737488355328) (hd2 : Rd w w.heap.size 1 Ad2 d2.length (bc d2)) (he2 : Rd w w.heap.size 3 Ae2 en2.length (ec en2)) (hp2 : Rd w w.heap.size 1 Ap2 pa2.length (pc pa2)) (hel2 : en2.length ≤ 140737488355328) (hpl2 : pa2.length ≤ 140737488355328) (h0 : k = k2) (h1 : d = d2) (h2 : en = en2) (h3 : tr = tr2) (h4 : pa = pa2) (h5 : ¬ (ta = ta2)) :
    Calls Try.prog 66 #[.agg #[.int .i64 k, .slice Ad d.length cd, .slice Ae en.length ce, .string tr, .slice Ap pa.length cp, .string ta, .string na, .string wh, .int .i64 st, .string te], .agg #[.int .i64 k2, .slice Ad2 d2.length cd2, .slice Ae2 en2.length ce2, .string tr2, .slice Ap2 pa2.length cp2, .string ta2, .string na2, .string wh2, .int .i64 st2, .string te2]] w (RetEqB (k = k2 ∧ d = d2 ∧ en = en2 ∧ tr = tr2 ∧ pa = pa2 ∧ ta = ta2 ∧ na = na2 ∧ wh = wh2 ∧ st = st2 ∧ te = te2) w) := by
  have hb : Below w.heap.size w ((w.alloc (.cells #[.int .i64 k, .slice Ad d.length cd, .slice Ae en.length ce, .string tr, .slice Ap pa.length cp, .string ta, .string na, .string wh, .int .i64 st, .string te] 43)).alloc (.cells #[.int .i64 k2, .slice Ad2 d2.length cd2, .slice Ae2 en2.length ce2, .string tr2, .slice Ap2 pa2.length cp2, .string ta2, .string na2, .string wh2, .int .i64 st2, .string te2] 43)) := ((Below.refl _ _).alloc (Nat.le_refl _) _).alloc (by simp) _
  have hv1 : (convert 22 9 (.slice Ad d.length cd)).run Try.prog ((w.alloc (.cells #[.int .i64 k, .slice Ad d.length cd, .slice Ae en.length ce, .string tr, .slice Ap pa.length cp, .string ta, .string na, .string wh, .int .i64 st, .string te] 43)).alloc (.cells #[.int .i64 k2, .slice Ad2 d2.length cd2, .slice Ae2 en2.length ce2, .string tr2, .slice Ap2 pa2.length cp2, .string ta2, .string na2, .string wh2, .int .i64 st2, .string te2] 43)) = .ok (.string ⟨d.toArray⟩) ((w.alloc (.cells #[.int .i64 k, .slice Ad d.length cd, .slice Ae en.length ce, .string tr, .slice Ap pa.length cp, .string ta, .string na, .string wh, .int .i64 st, .string te] 43)).alloc (.cells #[.int .i64 k2, .slice Ad2 d2.length cd2, .slice Ae2 en2.length ce2, .string tr2, .slice Ap2 pa2.length cp2, .string ta2, .string na2, .string wh2, .int .i64 st2, .string te2] 43)) := conv8f (hd.alive hb)
  have hv2 : (convert 22 9 (.slice Ad2 d2.length cd2)).run Try.prog ((w.alloc (.cells #[.int .i64 k, .slice Ad d.length cd, .slice Ae en.length ce, .string tr, .slice Ap pa.length cp, .string ta, .string na, .string wh, .int .i64 st, .string te] 43)).alloc (.cells #[.int .i64 k2, .slice Ad2 d2.length cd2, .slice Ae2 en2.length ce2, .string tr2, .slice Ap2 pa2.length cp2, .string ta2, .string na2, .string wh2, .int .i64 st2, .string te2] 43)) = .ok (.string ⟨d2.toArray⟩) ((w.alloc (.cells #[.int .i64 k, .slice Ad d.length cd, .slice Ae en.length ce, .string tr, .slice Ap pa.length cp, .string ta, .string na, .string wh, .int .i64 st, .string te] 43)).alloc (.cells #[.int .i64 k2, .slice Ad2 d2.length cd2, .slice Ae2 en2.length ce2, .string tr2, .slice Ap2 pa2.length cp2, .string ta2, .string na2, .string wh2, .int .i64 st2, .string te2] 43)) := conv8f (hd2.alive hb)
  have re := he.below hb
  have re2 := he2.below hb
  have rp := hp.below hb
  have rp2 := hp2.below hb
  have g0 : (k == k2) = true := beq_iff_eq.2 h0
  have g1 : (d == d2) = true := beq_iff_eq.2 h1
  have HE : Hid (en = en2) := h2
  have g3 : (tr.toList == tr2.toList) = true := str_eq_b h3
  have HS : Hid (pa = pa2) := h4
  have g5 : (ta.toList == ta2.toList) = false := str_ne_b h5
  have HP : Hid (¬ (k = k2 ∧ d = d2 ∧ en = en2 ∧ tr = tr2 ∧ pa = pa2 ∧ ta = ta2 ∧ na = na2 ∧ wh = wh2 ∧ st = st2 ∧ te = te2)) := fun h => h5 h.2.2.2.2.2.1
  clear hd hd2 he he2 hp hp2 h0 h1 h2 h3 h4 h5
  go_enter Try.func66, Try.ntmps66
  go_wp2_with (first | (go_at_call 79; (with_reducible refine (EqualE_t Ae en ce Ae2 en2 ce2 _ w.heap.size re re2 hel hel2 HE).mono ?_); rintro e w3 ⟨rfl, n3, rfl⟩) | (go_at_call 80; have rp3 := rp.drewN n3; have rp32 := rp2.drewN n3; (with_reducible refine (EqualS_t Ap pa cp Ap2 pa2 cp2 _ w.heap.size rp3 rp32 hpl hpl2 HS).mono ?_); rintro e w4 ⟨rfl, n4, rfl⟩))
  go_ret
  exact ⟨false, rfl, by simp [HP.out], by first | exact hb | exact hb.drewN' _ | exact (hb.drewN' _).drewN' _⟩

set_option maxRecDepth 100000 in
set_option maxHeartbeats 4000000 in
theorem same_6 (k : Int) (Ad : Option Addr) (d : List UInt8) (cd : Nat) (Ae : Option Addr) (en : List Ent) (ce : Nat) (tr : ByteArray) (Ap : Option Addr) (pa : List ByteArray) (cp : Nat) (ta na wh : ByteArray) (st : Int) (te : ByteArray) (k2 : Int) (Ad2 : Option Addr) (d2 : List UInt8) (cd2 : Nat) (Ae2 : Option Addr) (en2 : List Ent) (ce2 : Nat) (tr2 : ByteArray) (Ap2 : Option Addr) (pa2 : List ByteArray) (cp2 : Nat) (ta2 na2 wh2 : ByteArray) (st2 : Int) (te2 : ByteArray) (w : World) (hd : Rd w w.heap.size 1 Ad d.length (bc d)) (he : Rd w w.heap.size 3 Ae en.length (ec en)) (hp : Rd w w.heap.size 1 Ap pa.length (pc pa)) (hel : en.length ≤ 140737488355328) (hpl : pa.length ≤ 140737488355328) (hd2 : Rd w w.heap.size 1 Ad2 d2.length (bc d2)) (he2 : Rd w w.heap.size 3 Ae2 en2.length (ec en2)) (hp2 : Rd w w.heap.size 1 Ap2 pa2.length (pc pa2)) (hel2 : en2.length ≤ 140737488355328) (hpl2 : pa2.length ≤ 140737488355328) (h0 : k = k2) (h1 : d = d2) (h2 : en = en2) (h3 : tr = tr2) (h4 : pa = pa2) (h5 : ta = ta2) (h6 : ¬ (na = na2)) :
    Calls Try.prog 66 #[.agg #[.int .i64 k, .slice Ad d.length cd, .slice Ae en.length ce, .string tr, .slice Ap pa.length cp, .string ta, .string na, .string wh, .int .i64 st, .string te], .agg #[.int .i64 k2, .slice Ad2 d2.length cd2, .slice Ae2 en2.length ce2, .string tr2, .slice Ap2 pa2.length cp2, .string ta2, .string na2, .string wh2, .int .i64 st2, .string te2]] w (RetEqB (k = k2 ∧ d = d2 ∧ en = en2 ∧ tr = tr2 ∧ pa = pa2 ∧ ta = ta2 ∧ na = na2 ∧ wh = wh2 ∧ st = st2 ∧ te = te2) w) := by
  have hb : Below w.heap.size w ((w.alloc (.cells #[.int .i64 k, .slice Ad d.length cd, .slice Ae en.length ce, .string tr, .slice Ap pa.length cp, .string ta, .string na, .string wh, .int .i64 st, .string te] 43)).alloc (.cells #[.int .i64 k2, .slice Ad2 d2.length cd2, .slice Ae2 en2.length ce2, .string tr2, .slice Ap2 pa2.length cp2, .string ta2, .string na2, .string wh2, .int .i64 st2, .string te2] 43)) := ((Below.refl _ _).alloc (Nat.le_refl _) _).alloc (by simp) _
  have hv1 : (convert 22 9 (.slice Ad d.length cd)).run Try.prog ((w.alloc (.cells #[.int .i64 k, .slice Ad d.length cd, .slice Ae en.length ce, .string tr, .slice Ap pa.length cp, .string ta, .string na, .string wh, .int .i64 st, .string te] 43)).alloc (.cells #[.int .i64 k2, .slice Ad2 d2.length cd2, .slice Ae2 en2.length ce2, .string tr2, .slice Ap2 pa2.length cp2, .string ta2, .string na2, .string wh2, .int .i64 st2, .string te2] 43)) = .ok (.string ⟨d.toArray⟩) ((w.alloc (.cells #[.int .i64 k, .slice Ad d.length cd, .slice Ae en.length ce, .string tr, .slice Ap pa.length cp, .string ta, .string na, .string wh, .int .i64 st, .string te] 43)).alloc (.cells #[.int .i64 k2, .slice Ad2 d2.length cd2, .slice Ae2 en2.length ce2, .string tr2, .slice Ap2 pa2.length cp2, .string ta2, .string na2, .string wh2, .int .i64 st2, .string te2] 43)) := conv8f (hd.alive hb)
  have hv2 : (convert 22 9 (.slice Ad2 d2.length cd2)).run Try.prog ((w.alloc (.cells #[.int .i64 k, .slice Ad d.length cd, .slice Ae en.length ce, .string tr, .slice Ap pa.length cp, .string ta, .string na, .string wh, .int .i64 st, .string te] 43)).alloc (.cells #[.int .i64 k2, .slice Ad2 d2.length cd2, .slice Ae2 en2.length ce2, .string tr2, .slice Ap2 pa2.length cp2, .string ta2, .string na2, .string wh2, .int .i64 st2, .string te2] 43)) = .ok (.string ⟨d2.toArray⟩) ((w.alloc (.cells #[.int .i64 k, .slice Ad d.length cd, .slice Ae en.length ce, .string tr, .slice Ap pa.length cp, .string ta, .string na, .string wh, .int .i64 st, .string te] 43)).alloc (.cells #[.int .i64 k2, .slice Ad2 d2.length cd2, .slice Ae2 en2.length ce2, .string tr2, .slice Ap2 pa2.length cp2, .string ta2, .string na2, .string wh2, .int .i64 st2, .string te2] 43)) := conv8f (hd2.alive hb)
  have re := he.below hb
  have re2 := he2.below hb
  have rp := hp.below hb
  have rp2 := hp2.below hb
  have g0 : (k == k2) = true := beq_iff_eq.2 h0
  have g1 : (d == d2) = true := beq_iff_eq.2 h1
  have HE : Hid (en = en2) := h2
  have g3 : (tr.toList == tr2.toList) = true := str_eq_b h3
  have HS : Hid (pa = pa2) := h4
  have g5 : (ta.toList == ta2.toList) = true := str_eq_b h5
  have g6 : (na.toList == na2.toList) = false := str_ne_b h6
  have HP : Hid (¬ (k = k2 ∧ d = d2 ∧ en = en2 ∧ tr = tr2 ∧ pa = pa2 ∧ ta = ta2 ∧ na = na2 ∧ wh = wh2 ∧ st = st2 ∧ te = te2)) := fun h => h6 h.2.2.2.2.2.2.1
  clear hd hd2 he he2 hp hp2 h0 h1 h2 h3 h4 h5 h6
  go_enter Try.func66, Try.ntmps66
  go_wp2_with (first | (go_at_call 79; (with_reducible refine (EqualE_t Ae en ce Ae2 en2 ce2 _ w.heap.size re re2 hel hel2 HE).mono ?_); rintro e w3 ⟨rfl, n3, rfl⟩) | (go_at_call 80; have rp3 := rp.drewN n3; have rp32 := rp2.drewN n3; (with_reducible refine (EqualS_t Ap pa cp Ap2 pa2 cp2 _ w.heap.size rp3 rp32 hpl hpl2 HS).mono ?_); rintro e w4 ⟨rfl, n4, rfl⟩))
  go_ret
  exact ⟨false, rfl, by simp [HP.out], by first | exact hb | exact hb.drewN' _ | exact (hb.drewN' _).drewN' _⟩

set_option maxRecDepth 100000 in
set_option maxHeartbeats 4000000 in
theorem same_7 (k : Int) (Ad : Option Addr) (d : List UInt8) (cd : Nat) (Ae : Option Addr) (en : List Ent) (ce : Nat) (tr : ByteArray) (Ap : Option Addr) (pa : List ByteArray) (cp : Nat) (ta na wh : ByteArray) (st : Int) (te : ByteArray) (k2 : Int) (Ad2 : Option Addr) (d2 : List UInt8) (cd2 : Nat) (Ae2 : Option Addr) (en2 : List Ent) (ce2 : Nat) (tr2 : ByteArray) (Ap2 : Option Addr) (pa2 : List ByteArray) (cp2 : Nat) (ta2 na2 wh2 : ByteArray) (st2 : Int) (te2 : ByteArray) (w : World) (hd : Rd w w.heap.size 1 Ad d.length (bc d)) (he : Rd w w.heap.size 3 Ae en.length (ec en)) (hp : Rd w w.heap.size 1 Ap pa.length (pc pa)) (hel : en.length ≤ 140737488355328) (hpl : pa.length ≤ 140737488355328) (hd2 : Rd w w.heap.size 1 Ad2 d2.length (bc d2)) (he2 : Rd w w.heap.size 3 Ae2 en2.length (ec en2)) (hp2 : Rd w w.heap.size 1 Ap2 pa2.length (pc pa2)) (hel2 : en2.length ≤ 140737488355328) (hpl2 : pa2.length ≤ 140737488355328) (h0 : k = k2) (h1 : d = d2) (h2 : en = en2) (h3 : tr = tr2) (h4 : pa = pa2) (h5 : ta = ta2) (h6 : na = na2) (h7 : ¬ (wh = wh2)) :
    Calls Try.prog 66 #[.agg #[.int .i64 k, .slice Ad d.length cd, .slice Ae en.length ce, .string tr, .slice Ap pa.length cp, .string ta, .string na, .string wh, .int .i64 st, .string te], .agg #[.int .i64 k2, .slice Ad2 d2.length cd2, .slice Ae2 en2.length ce2, .string tr2, .slice Ap2 pa2.length cp2, .string ta2, .string na2, .string wh2, .int .i64 st2, .string te2]] w (RetEqB (k = k2 ∧ d = d2 ∧ en = en2 ∧ tr = tr2 ∧ pa = pa2 ∧ ta = ta2 ∧ na = na2 ∧ wh = wh2 ∧ st = st2 ∧ te = te2) w) := by
  have hb : Below w.heap.size w ((w.alloc (.cells #[.int .i64 k, .slice Ad d.length cd, .slice Ae en.length ce, .string tr, .slice Ap pa.length cp, .string ta, .string na, .string wh, .int .i64 st, .string te] 43)).alloc (.cells #[.int .i64 k2, .slice Ad2 d2.length cd2, .slice Ae2 en2.length ce2, .string tr2, .slice Ap2 pa2.length cp2, .string ta2, .string na2, .string wh2, .int .i64 st2, .string te2] 43)) := ((Below.refl _ _).alloc (Nat.le_refl _) _).alloc (by simp) _
  have hv1 : (convert 22 9 (.slice Ad d.length cd)).run Try.prog ((w.alloc (.cells #[.int .i64 k, .slice Ad d.length cd, .slice Ae en.length ce, .string tr, .slice Ap pa.length cp, .string ta, .string na, .string wh, .int .i64 st, .string te] 43)).alloc (.cells #[.int .i64 k2, .slice Ad2 d2.length cd2, .slice Ae2 en2.length ce2, .string tr2, .slice Ap2 pa2.length cp2, .string ta2, .string na2, .string wh2, .int .i64 st2, .string te2] 43)) = .ok (.string ⟨d.toArray⟩) ((w.alloc (.cells #[.int .i64 k, .slice Ad d.length cd, .slice Ae en.length ce, .string tr, .slice Ap pa.length cp, .string ta, .string na, .string wh, .int .i64 st, .string te] 43)).alloc (.cells #[.int .i64 k2, .slice Ad2 d2.length cd2, .slice Ae2 en2.length ce2, .string tr2, .slice Ap2 pa2.length cp2, .string ta2, .string na2, .string wh2, .int .i64 st2, .string te2] 43)) := conv8f (hd.alive hb)
  have hv2 : (convert 22 9 (.slice Ad2 d2.length cd2)).run Try.prog ((w.alloc (.cells #[.int .i64 k, .slice Ad d.length cd, .slice Ae en.length ce, .string tr, .slice Ap pa.length cp, .string ta, .string na, .string wh, .int .i64 st, .string te] 43)).alloc (.cells #[.int .i64 k2, .slice Ad2 d2.length cd2, .slice Ae2 en2.length ce2, .string tr2, .slice Ap2 pa2.length cp2, .string ta2, .string na2, .string wh2, .int .i64 st2, .string te2] 43)) = .ok (.string ⟨d2.toArray⟩) ((w.alloc (.cells #[.int .i64 k, .slice Ad d.length cd, .slice Ae en.length ce, .string tr, .slice Ap pa.length cp, .string ta, .string na, .string wh, .int .i64 st, .string te] 43)).alloc (.cells #[.int .i64 k2, .slice Ad2 d2.length cd2, .slice Ae2 en2.length ce2, .string tr2, .slice Ap2 pa2.length cp2, .string ta2, .string na2, .string wh2, .int .i64 st2, .string te2] 43)) := conv8f (hd2.alive hb)
  have re := he.below hb
  have re2 := he2.below hb
  have rp := hp.below hb
  have rp2 := hp2.below hb
  have g0 : (k == k2) = true := beq_iff_eq.2 h0
  have g1 : (d == d2) = true := beq_iff_eq.2 h1
  have HE : Hid (en = en2) := h2
  have g3 : (tr.toList == tr2.toList) = true := str_eq_b h3
  have HS : Hid (pa = pa2) := h4
  have g5 : (ta.toList == ta2.toList) = true := str_eq_b h5
  have g6 : (na.toList == na2.toList) = true := str_eq_b h6
  have g7 : (wh.toList == wh2.toList) = false := str_ne_b h7
  have HP : Hid (¬ (k = k2 ∧ d = d2 ∧ en = en2 ∧ tr = tr2 ∧ pa = pa2 ∧ ta = ta2 ∧ na = na2 ∧ wh = wh2 ∧ st = st2 ∧ te = te2)) := fun h => h7 h.2.2.2.2.2.2.2.1
  clear hd hd2 he he2 hp hp2 h0 h1 h2 h3 h4 h5 h6 h7
  go_enter Try.func66, Try.ntmps66
  go_wp2_with (first | (go_at_call 79; (with_reducible refine (EqualE_t Ae en ce Ae2 en2 ce2 _ w.heap.size re re2 hel hel2 HE).mono ?_); rintro e w3 ⟨rfl, n3, rfl⟩) | (go_at_call 80; have rp3 := rp.drewN n3; have rp32 := rp2.drewN n3; (with_reducible refine (EqualS_t Ap pa cp Ap2 pa2 cp2 _ w.heap.size rp3 rp32 hpl hpl2 HS).mono ?_); rintro e w4 ⟨rfl, n4, rfl⟩))
  go_ret
  exact ⟨false, rfl, by simp [HP.out], by first | exact hb | exact hb.drewN' _ | exact (hb.drewN' _).drewN' _⟩

set_option maxRecDepth 100000 in
set_option maxHeartbeats 4000000 in
theorem same_8 (k : Int) (Ad : Option Addr) (d : List UInt8) (cd : Nat) (Ae : Option Addr) (en : List Ent) (ce : Nat) (tr : ByteArray) (Ap : Option Addr) (pa : List ByteArray) (cp : Nat) (ta na wh : ByteArray) (st : Int) (te : ByteArray) (k2 : Int) (Ad2 : Option Addr) (d2 : List UInt8) (cd2 : Nat) (Ae2 : Option Addr) (en2 : List Ent) (ce2 : Nat) (tr2 : ByteArray) (Ap2 : Option Addr) (pa2 : List ByteArray) (cp2 : Nat) (ta2 na2 wh2 : ByteArray) (st2 : Int) (te2 : ByteArray) (w : World) (hd : Rd w w.heap.size 1 Ad d.length (bc d)) (he : Rd w w.heap.size 3 Ae en.length (ec en)) (hp : Rd w w.heap.size 1 Ap pa.length (pc pa)) (hel : en.length ≤ 140737488355328) (hpl : pa.length ≤ 140737488355328) (hd2 : Rd w w.heap.size 1 Ad2 d2.length (bc d2)) (he2 : Rd w w.heap.size 3 Ae2 en2.length (ec en2)) (hp2 : Rd w w.heap.size 1 Ap2 pa2.length (pc pa2)) (hel2 : en2.length ≤ 140737488355328) (hpl2 : pa2.length ≤ 140737488355328) (h0 : k = k2) (h1 : d = d2) (h2 : en = en2) (h3 : tr = tr2) (h4 : pa = pa2) (h5 : ta = ta2) (h6 : na = na2) (h7 : wh = wh2) (h8 : ¬ (st = st2)) :
    Calls Try.prog 66 #[.agg #[.int .i64 k, .slice Ad d.length cd, .slice Ae en.length ce, .string tr, .slice Ap pa.length cp, .string ta, .string na, .string wh, .int .i64 st, .string te], .agg #[.int .i64 k2, .slice Ad2 d2.length cd2, .slice Ae2 en2.length ce2, .string tr2, .slice Ap2 pa2.length cp2, .string ta2, .string na2, .string wh2, .int .i64 st2, .string te2]] w (RetEqB (k = k2 ∧ d = d2 ∧ en = en2 ∧ tr = tr2 ∧ pa = pa2 ∧ ta = ta2 ∧ na = na2 ∧ wh = wh2 ∧ st = st2 ∧ te = te2) w) := by
  have hb : Below w.heap.size w ((w.alloc (.cells #[.int .i64 k, .slice Ad d.length cd, .slice Ae en.length ce, .string tr, .slice Ap pa.length cp, .string ta, .string na, .string wh, .int .i64 st, .string te] 43)).alloc (.cells #[.int .i64 k2, .slice Ad2 d2.length cd2, .slice Ae2 en2.length ce2, .string tr2, .slice Ap2 pa2.length cp2, .string ta2, .string na2, .string wh2, .int .i64 st2, .string te2] 43)) := ((Below.refl _ _).alloc (Nat.le_refl _) _).alloc (by simp) _
  have hv1 : (convert 22 9 (.slice Ad d.length cd)).run Try.prog ((w.alloc (.cells #[.int .i64 k, .slice Ad d.length cd, .slice Ae en.length ce, .string tr, .slice Ap pa.length cp, .string ta, .string na, .string wh, .int .i64 st, .string te] 43)).alloc (.cells #[.int .i64 k2, .slice Ad2 d2.length cd2, .slice Ae2 en2.length ce2, .string tr2, .slice Ap2 pa2.length cp2, .string ta2, .string na2, .string wh2, .int .i64 st2, .string te2] 43)) = .ok (.string ⟨d.toArray⟩) ((w.alloc (.cells #[.int .i64 k, .slice Ad d.length cd, .slice Ae en.length ce, .string tr, .slice Ap pa.length cp, .string ta, .string na, .string wh, .int .i64 st, .string te] 43)).alloc (.cells #[.int .i64 k2, .slice Ad2 d2.length cd2, .slice Ae2 en2.length ce2, .string tr2, .slice Ap2 pa2.length cp2, .string ta2, .string na2, .string wh2, .int .i64 st2, .string te2] 43)) := conv8f (hd.alive hb)
  have hv2 : (convert 22 9 (.slice Ad2 d2.length cd2)).run Try.prog ((w.alloc (.cells #[.int .i64 k, .slice Ad d.length cd, .slice Ae en.length ce, .string tr, .slice Ap pa.length cp, .string ta, .string na, .string wh, .int .i64 st, .string te] 43)).alloc (.cells #[.int .i64 k2, .slice Ad2 d2.length cd2, .slice Ae2 en2.length ce2, .string tr2, .slice Ap2 pa2.length cp2, .string ta2, .string na2, .string wh2, .int .i64 st2, .string te2] 43)) = .ok (.string ⟨d2.toArray⟩) ((w.alloc (.cells #[.int .i64 k, .slice Ad d.length cd, .slice Ae en.length ce, .string tr, .slice Ap pa.length cp, .string ta, .string na, .string wh, .int .i64 st, .string te] 43)).alloc (.cells #[.int .i64 k2, .slice Ad2 d2.length cd2, .slice Ae2 en2.length ce2, .string tr2, .slice Ap2 pa2.length cp2, .string ta2, .string na2, .string wh2, .int .i64 st2, .string te2] 43)) := conv8f (hd2.alive hb)
  have re := he.below hb
  have re2 := he2.below hb
  have rp := hp.below hb
  have rp2 := hp2.below hb
  have g0 : (k == k2) = true := beq_iff_eq.2 h0
  have g1 : (d == d2) = true := beq_iff_eq.2 h1
  have HE : Hid (en = en2) := h2
  have g3 : (tr.toList == tr2.toList) = true := str_eq_b h3
  have HS : Hid (pa = pa2) := h4
  have g5 : (ta.toList == ta2.toList) = true := str_eq_b h5
  have g6 : (na.toList == na2.toList) = true := str_eq_b h6
  have g7 : (wh.toList == wh2.toList) = true := str_eq_b h7
  have g8 : (st == st2) = false := beq_eq_false_iff_ne.2 h8
  have HP : Hid (¬ (k = k2 ∧ d = d2 ∧ en = en2 ∧ tr = tr2 ∧ pa = pa2 ∧ ta = ta2 ∧ na = na2 ∧ wh = wh2 ∧ st = st2 ∧ te = te2)) := fun h => h8 h.2.2.2.2.2.2.2.2.1
  clear hd hd2 he he2 hp hp2 h0 h1 h2 h3 h4 h5 h6 h7 h8
  go_enter Try.func66, Try.ntmps66
  go_wp2_with (first | (go_at_call 79; (with_reducible refine (EqualE_t Ae en ce Ae2 en2 ce2 _ w.heap.size re re2 hel hel2 HE).mono ?_); rintro e w3 ⟨rfl, n3, rfl⟩) | (go_at_call 80; have rp3 := rp.drewN n3; have rp32 := rp2.drewN n3; (with_reducible refine (EqualS_t Ap pa cp Ap2 pa2 cp2 _ w.heap.size rp3 rp32 hpl hpl2 HS).mono ?_); rintro e w4 ⟨rfl, n4, rfl⟩))
  go_ret
  exact ⟨false, rfl, by simp [HP.out], by first | exact hb | exact hb.drewN' _ | exact (hb.drewN' _).drewN' _⟩

set_option maxRecDepth 100000 in
set_option maxHeartbeats 4000000 in
theorem same_9 (k : Int) (Ad : Option Addr) (d : List UInt8) (cd : Nat) (Ae : Option Addr) (en : List Ent) (ce : Nat) (tr : ByteArray) (Ap : Option Addr) (pa : List ByteArray) (cp : Nat) (ta na wh : ByteArray) (st : Int) (te : ByteArray) (k2 : Int) (Ad2 : Option Addr) (d2 : List UInt8) (cd2 : Nat) (Ae2 : Option Addr) (en2 : List Ent) (ce2 : Nat) (tr2 : ByteArray) (Ap2 : Option Addr) (pa2 : List ByteArray) (cp2 : Nat) (ta2 na2 wh2 : ByteArray) (st2 : Int) (te2 : ByteArray) (w : World) (hd : Rd w w.heap.size 1 Ad d.length (bc d)) (he : Rd w w.heap.size 3 Ae en.length (ec en)) (hp : Rd w w.heap.size 1 Ap pa.length (pc pa)) (hel : en.length ≤ 140737488355328) (hpl : pa.length ≤ 140737488355328) (hd2 : Rd w w.heap.size 1 Ad2 d2.length (bc d2)) (he2 : Rd w w.heap.size 3 Ae2 en2.length (ec en2)) (hp2 : Rd w w.heap.size 1 Ap2 pa2.length (pc pa2)) (hel2 : en2.length ≤ 140737488355328) (hpl2 : pa2.length ≤ 140737488355328) (h0 : k = k2) (h1 : d = d2) (h2 : en = en2) (h3 : tr = tr2) (h4 : pa = pa2) (h5 : ta = ta2) (h6 : na = na2) (h7 : wh = wh2) (h8 : st = st2) (h9 : ¬ (te = te2)) :
    Calls Try.prog 66 #[.agg #[.int .i64 k, .slice Ad d.length cd, .slice Ae en.length ce, .string tr, .slice Ap pa.length cp, .string ta, .string na, .string wh, .int .i64 st, .string te], .agg #[.int .i64 k2, .slice Ad2 d2.length cd2, .slice Ae2 en2.length ce2, .string tr2, .slice Ap2 pa2.length cp2, .string ta2, .string na2, .string wh2, .int .i64 st2, .string te2]] w (RetEqB (k = k2 ∧ d = d2 ∧ en = en2 ∧ tr = tr2 ∧ pa = pa2 ∧ ta = ta2 ∧ na = na2 ∧ wh = wh2 ∧ st = st2 ∧ te = te2) w) := by
  have hb : Below w.heap.size w ((w.alloc (.cells #[.int .i64 k, .slice Ad d.length cd, .slice Ae en.length ce, .string tr, .slice Ap pa.length cp, .string ta, .string na, .string wh, .int .i64 st, .string te] 43)).alloc (.cells #[.int .i64 k2, .slice Ad2 d2.length cd2, .slice Ae2 en2.length ce2, .string tr2, .slice Ap2 pa2.length cp2, .string ta2, .string na2, .string wh2, .int .i64 st2, .string te2] 43)) := ((Below.refl _ _).alloc (Nat.le_refl _) _).alloc (by simp) _
  have hv1 : (convert 22 9 (.slice Ad d.length cd)).run Try.prog ((w.alloc (.cells #[.int .i64 k, .slice Ad d.length cd, .slice Ae en.length ce, .string tr, .slice Ap pa.length cp, .string ta, .string na, .string wh, .int .i64 st, .string te] 43)).alloc (.cells #[.int .i64 k2, .slice Ad2 d2.length cd2, .slice Ae2 en2.length ce2, .string tr2, .slice Ap2 pa2.length cp2, .string ta2, .string na2, .string wh2, .int .i64 st2, .string te2] 43)) = .ok (.string ⟨d.toArray⟩) ((w.alloc (.cells #[.int .i64 k, .slice Ad d.length cd, .slice Ae en.length ce, .string tr, .slice Ap pa.length cp, .string ta, .string na, .string wh, .int .i64 st, .string te] 43)).alloc (.cells #[.int .i64 k2, .slice Ad2 d2.length cd2, .slice Ae2 en2.length ce2, .string tr2, .slice Ap2 pa2.length cp2, .string ta2, .string na2, .string wh2, .int .i64 st2, .string te2] 43)) := conv8f (hd.alive hb)
  have hv2 : (convert 22 9 (.slice Ad2 d2.length cd2)).run Try.prog ((w.alloc (.cells #[.int .i64 k, .slice Ad d.length cd, .slice Ae en.length ce, .string tr, .slice Ap pa.length cp, .string ta, .string na, .string wh, .int .i64 st, .string te] 43)).alloc (.cells #[.int .i64 k2, .slice Ad2 d2.length cd2, .slice Ae2 en2.length ce2, .string tr2, .slice Ap2 pa2.length cp2, .string ta2, .string na2, .string wh2, .int .i64 st2, .string te2] 43)) = .ok (.string ⟨d2.toArray⟩) ((w.alloc (.cells #[.int .i64 k, .slice Ad d.length cd, .slice Ae en.length ce, .string tr, .slice Ap pa.length cp, .string ta, .string na, .string wh, .int .i64 st, .string te] 43)).alloc (.cells #[.int .i64 k2, .slice Ad2 d2.length cd2, .slice Ae2 en2.length ce2, .string tr2, .slice Ap2 pa2.length cp2, .string ta2, .string na2, .string wh2, .int .i64 st2, .string te2] 43)) := conv8f (hd2.alive hb)
  have re := he.below hb
  have re2 := he2.below hb
  have rp := hp.below hb
  have rp2 := hp2.below hb
  have g0 : (k == k2) = true := beq_iff_eq.2 h0
  have g1 : (d == d2) = true := beq_iff_eq.2 h1
  have HE : Hid (en = en2) := h2
  have g3 : (tr.toList == tr2.toList) = true := str_eq_b h3
  have HS : Hid (pa = pa2) := h4
  have g5 : (ta.toList == ta2.toList) = true := str_eq_b h5
  have g6 : (na.toList == na2.toList) = true := str_eq_b h6
  have g7 : (wh.toList == wh2.toList) = true := str_eq_b h7
  have g8 : (st == st2) = true := beq_iff_eq.2 h8
  have g9 : (te.toList == te2.toList) = false := str_ne_b h9
  have HP : Hid (¬ (k = k2 ∧ d = d2 ∧ en = en2 ∧ tr = tr2 ∧ pa = pa2 ∧ ta = ta2 ∧ na = na2 ∧ wh = wh2 ∧ st = st2 ∧ te = te2)) := fun h => h9 h.2.2.2.2.2.2.2.2.2
  clear hd hd2 he he2 hp hp2 h0 h1 h2 h3 h4 h5 h6 h7 h8 h9
  go_enter Try.func66, Try.ntmps66
  go_wp2_with (first | (go_at_call 79; (with_reducible refine (EqualE_t Ae en ce Ae2 en2 ce2 _ w.heap.size re re2 hel hel2 HE).mono ?_); rintro e w3 ⟨rfl, n3, rfl⟩) | (go_at_call 80; have rp3 := rp.drewN n3; have rp32 := rp2.drewN n3; (with_reducible refine (EqualS_t Ap pa cp Ap2 pa2 cp2 _ w.heap.size rp3 rp32 hpl hpl2 HS).mono ?_); rintro e w4 ⟨rfl, n4, rfl⟩))
  go_ret
  exact ⟨false, rfl, by simp [HP.out], by first | exact hb | exact hb.drewN' _ | exact (hb.drewN' _).drewN' _⟩

set_option maxRecDepth 100000 in
set_option maxHeartbeats 4000000 in
theorem same_10 (k : Int) (Ad : Option Addr) (d : List UInt8) (cd : Nat) (Ae : Option Addr) (en : List Ent) (ce : Nat) (tr : ByteArray) (Ap : Option Addr) (pa : List ByteArray) (cp : Nat) (ta na wh : ByteArray) (st : Int) (te : ByteArray) (k2 : Int) (Ad2 : Option Addr) (d2 : List UInt8) (cd2 : Nat) (Ae2 : Option Addr) (en2 : List Ent) (ce2 : Nat) (tr2 : ByteArray) (Ap2 : Option Addr) (pa2 : List ByteArray) (cp2 : Nat) (ta2 na2 wh2 : ByteArray) (st2 : Int) (te2 : ByteArray) (w : World) (hd : Rd w w.heap.size 1 Ad d.length (bc d)) (he : Rd w w.heap.size 3 Ae en.length (ec en)) (hp : Rd w w.heap.size 1 Ap pa.length (pc pa)) (hel : en.length ≤ 140737488355328) (hpl : pa.length ≤ 140737488355328) (hd2 : Rd w w.heap.size 1 Ad2 d2.length (bc d2)) (he2 : Rd w w.heap.size 3 Ae2 en2.length (ec en2)) (hp2 : Rd w w.heap.size 1 Ap2 pa2.length (pc pa2)) (hel2 : en2.length ≤ 140737488355328) (hpl2 : pa2.length ≤ 140737488355328) (h0 : k = k2) (h1 : d = d2) (h2 : en = en2) (h3 : tr = tr2) (h4 : pa = pa2) (h5 : ta = ta2) (h6 : na = na2) (h7 : wh = wh2) (h8 : st = st2) (h9 : te = te2) :
    Calls Try.prog 66 #[.agg #[.int .i64 k, .slice Ad d.length cd, .slice Ae en.length ce, .string tr, .slice Ap pa.length cp, .string ta, .string na, .string wh, .int .i64 st, .string te], .agg #[.int .i64 k2, .slice Ad2 d2.length cd2, .slice Ae2 en2.length ce2, .string tr2, .slice Ap2 pa2.length cp2, .string ta2, .string na2, .string wh2, .int .i64 st2, .string te2]] w (RetEqB (k = k2 ∧ d = d2 ∧ en = en2 ∧ tr = tr2 ∧ pa = pa2 ∧ ta = ta2 ∧ na = na2 ∧ wh = wh2 ∧ st = st2 ∧ te = te2) w) := by
  have hb : Below w.heap.size w ((w.alloc (.cells #[.int .i64 k, .slice Ad d.length cd, .slice Ae en.length ce, .string tr, .slice Ap pa.length cp, .string ta, .string na, .string wh, .int .i64 st, .string te] 43)).alloc (.cells #[.int .i64 k2, .slice Ad2 d2.length cd2, .slice Ae2 en2.length ce2, .string tr2, .slice Ap2 pa2.length cp2, .string ta2, .string na2, .string wh2, .int .i64 st2, .string te2] 43)) := ((Below.refl _ _).alloc (Nat.le_refl _) _).alloc (by simp) _
  have hv1 : (convert 22 9 (.slice Ad d.length cd)).run Try.prog ((w.alloc (.cells #[.int .i64 k, .slice Ad d.length cd, .slice Ae en.length ce, .string tr, .slice Ap pa.length cp, .string ta, .string na, .string wh, .int .i64 st, .string te] 43)).alloc (.cells #[.int .i64 k2, .slice Ad2 d2.length cd2, .slice Ae2 en2.length ce2, .string tr2, .slice Ap2 pa2.length cp2, .string ta2, .string na2, .string wh2, .int .i64 st2, .string te2] 43)) = .ok (.string ⟨d.toArray⟩) ((w.alloc (.cells #[.int .i64 k, .slice Ad d.length cd, .slice Ae en.length ce, .string tr, .slice Ap pa.length cp, .string ta, .string na, .string wh, .int .i64 st, .string te] 43)).alloc (.cells #[.int .i64 k2, .slice Ad2 d2.length cd2, .slice Ae2 en2.length ce2, .string tr2, .slice Ap2 pa2.length cp2, .string ta2, .string na2, .string wh2, .int .i64 st2, .string te2] 43)) := conv8f (hd.alive hb)
  have hv2 : (convert 22 9 (.slice Ad2 d2.length cd2)).run Try.prog ((w.alloc (.cells #[.int .i64 k, .slice Ad d.length cd, .slice Ae en.length ce, .string tr, .slice Ap pa.length cp, .string ta, .string na, .string wh, .int .i64 st, .string te] 43)).alloc (.cells #[.int .i64 k2, .slice Ad2 d2.length cd2, .slice Ae2 en2.length ce2, .string tr2, .slice Ap2 pa2.length cp2, .string ta2, .string na2, .string wh2, .int .i64 st2, .string te2] 43)) = .ok (.string ⟨d2.toArray⟩) ((w.alloc (.cells #[.int .i64 k, .slice Ad d.length cd, .slice Ae en.length ce, .string tr, .slice Ap pa.length cp, .string ta, .string na, .string wh, .int .i64 st, .string te] 43)).alloc (.cells #[.int .i64 k2, .slice Ad2 d2.length cd2, .slice Ae2 en2.length ce2, .string tr2, .slice Ap2 pa2.length cp2, .string ta2, .string na2, .string wh2, .int .i64 st2, .string te2] 43)) := conv8f (hd2.alive hb)
  have re := he.below hb
  have re2 := he2.below hb
  have rp := hp.below hb
  have rp2 := hp2.below hb
  have g0 : (k == k2) = true := beq_iff_eq.2 h0
  have g1 : (d == d2) = true := beq_iff_eq.2 h1
  have HE : Hid (en = en2) := h2
  have g3 : (tr.toList == tr2.toList) = true := str_eq_b h3
  have HS : Hid (pa = pa2) := h4
  have g5 : (ta.toList == ta2.toList) = true := str_eq_b h5
  have g6 : (na.toList == na2.toList) = true := str_eq_b h6
  have g7 : (wh.toList == wh2.toList) = true := str_eq_b h7
  have g8 : (st == st2) = true := beq_iff_eq.2 h8
  have g9 : (te.toList == te2.toList) = true := str_eq_b h9
  have HP : Hid ((k = k2 ∧ d = d2 ∧ en = en2 ∧ tr = tr2 ∧ pa = pa2 ∧ ta = ta2 ∧ na = na2 ∧ wh = wh2 ∧ st = st2 ∧ te = te2)) := ⟨h0, h1, h2, h3, h4, h5, h6, h7, h8, h9⟩
  clear hd hd2 he he2 hp hp2 h0 h1 h2 h3 h4 h5 h6 h7 h8 h9
  go_enter Try.func66, Try.ntmps66
  go_wp2_with (first | (go_at_call 79; (with_reducible refine (EqualE_t Ae en ce Ae2 en2 ce2 _ w.heap.size re re2 hel hel2 HE).mono ?_); rintro e w3 ⟨rfl, n3, rfl⟩) | (go_at_call 80; have rp3 := rp.drewN n3; have rp32 := rp2.drewN n3; (with_reducible refine (EqualS_t Ap pa cp Ap2 pa2 cp2 _ w.heap.size rp3 rp32 hpl hpl2 HS).mono ?_); rintro e w4 ⟨rfl, n4, rfl⟩))
  go_ret
  exact ⟨true, rfl, by simp [HP.out], by first | exact hb | exact hb.drewN' _ | exact (hb.drewN' _).drewN' _⟩

theorem same_calls (k : Int) (Ad : Option Addr) (d : List UInt8) (cd : Nat) (Ae : Option Addr) (en : List Ent) (ce : Nat) (tr : ByteArray) (Ap : Option Addr) (pa : List ByteArray) (cp : Nat) (ta na wh : ByteArray) (st : Int) (te : ByteArray) (k2 : Int) (Ad2 : Option Addr) (d2 : List UInt8) (cd2 : Nat) (Ae2 : Option Addr) (en2 : List Ent) (ce2 : Nat) (tr2 : ByteArray) (Ap2 : Option Addr) (pa2 : List ByteArray) (cp2 : Nat) (ta2 na2 wh2 : ByteArray) (st2 : Int) (te2 : ByteArray) (w : World) (hd : Rd w w.heap.size 1 Ad d.length (bc d)) (he : Rd w w.heap.size 3 Ae en.length (ec en)) (hp : Rd w w.heap.size 1 Ap pa.length (pc pa)) (hel : en.length ≤ 140737488355328) (hpl : pa.length ≤ 140737488355328) (hd2 : Rd w w.heap.size 1 Ad2 d2.length (bc d2)) (he2 : Rd w w.heap.size 3 Ae2 en2.length (ec en2)) (hp2 : Rd w w.heap.size 1 Ap2 pa2.length (pc pa2)) (hel2 : en2.length ≤ 140737488355328) (hpl2 : pa2.length ≤ 140737488355328) :
    Calls Try.prog 66 #[.agg #[.int .i64 k, .slice Ad d.length cd, .slice Ae en.length ce, .string tr, .slice Ap pa.length cp, .string ta, .string na, .string wh, .int .i64 st, .string te], .agg #[.int .i64 k2, .slice Ad2 d2.length cd2, .slice Ae2 en2.length ce2, .string tr2, .slice Ap2 pa2.length cp2, .string ta2, .string na2, .string wh2, .int .i64 st2, .string te2]] w (RetEqB (k = k2 ∧ d = d2 ∧ en = en2 ∧ tr = tr2 ∧ pa = pa2 ∧ ta = ta2 ∧ na = na2 ∧ wh = wh2 ∧ st = st2 ∧ te = te2) w) := by
  by_cases h0 : k = k2
  case neg => exact same_0 k Ad d cd Ae en ce tr Ap pa cp ta na wh st te k2 Ad2 d2 cd2 Ae2 en2 ce2 tr2 Ap2 pa2 cp2 ta2 na2 wh2 st2 te2 w hd he hp hel hpl hd2 he2 hp2 hel2 hpl2 h0
  case pos =>
    by_cases h1 : d = d2
    case neg => exact same_1 k Ad d cd Ae en ce tr Ap pa cp ta na wh st te k2 Ad2 d2 cd2 Ae2 en2 ce2 tr2 Ap2 pa2 cp2 ta2 na2 wh2 st2 te2 w hd he hp hel hpl hd2 he2 hp2 hel2 hpl2 h0 h1
    case pos =>
      by_cases h2 : en = en2
      case neg => exact same_2 k Ad d cd Ae en ce tr Ap pa cp ta na wh st te k2 Ad2 d2 cd2 Ae2 en2 ce2 tr2 Ap2 pa2 cp2 ta2 na2 wh2 st2 te2 w hd he hp hel hpl hd2 he2 hp2 hel2 hpl2 h0 h1 h2
      case pos =>
        by_cases h3 : tr = tr2
        case neg => exact same_3 k Ad d cd Ae en ce tr Ap pa cp ta na wh st te k2 Ad2 d2 cd2 Ae2 en2 ce2 tr2 Ap2 pa2 cp2 ta2 na2 wh2 st2 te2 w hd he hp hel hpl hd2 he2 hp2 hel2 hpl2 h0 h1 h2 h3
        case pos =>
          by_cases h4 : pa = pa2
          case neg => exact same_4 k Ad d cd Ae en ce tr Ap pa cp ta na wh st te k2 Ad2 d2 cd2 Ae2 en2 ce2 tr2 Ap2 pa2 cp2 ta2 na2 wh2 st2 te2 w hd he hp hel hpl hd2 he2 hp2 hel2 hpl2 h0 h1 h2 h3 h4
          case pos =>
            by_cases h5 : ta = ta2
            case neg => exact same_5 k Ad d cd Ae en ce tr Ap pa cp ta na wh st te k2 Ad2 d2 cd2 Ae2 en2 ce2 tr2 Ap2 pa2 cp2 ta2 na2 wh2 st2 te2 w hd he hp hel hpl hd2 he2 hp2 hel2 hpl2 h0 h1 h2 h3 h4 h5
            case pos =>
              by_cases h6 : na = na2
              case neg => exact same_6 k Ad d cd Ae en ce tr Ap pa cp ta na wh st te k2 Ad2 d2 cd2 Ae2 en2 ce2 tr2 Ap2 pa2 cp2 ta2 na2 wh2 st2 te2 w hd he hp hel hpl hd2 he2 hp2 hel2 hpl2 h0 h1 h2 h3 h4 h5 h6
              case pos =>
                by_cases h7 : wh = wh2
                case neg => exact same_7 k Ad d cd Ae en ce tr Ap pa cp ta na wh st te k2 Ad2 d2 cd2 Ae2 en2 ce2 tr2 Ap2 pa2 cp2 ta2 na2 wh2 st2 te2 w hd he hp hel hpl hd2 he2 hp2 hel2 hpl2 h0 h1 h2 h3 h4 h5 h6 h7
                case pos =>
                  by_cases h8 : st = st2
                  case neg => exact same_8 k Ad d cd Ae en ce tr Ap pa cp ta na wh st te k2 Ad2 d2 cd2 Ae2 en2 ce2 tr2 Ap2 pa2 cp2 ta2 na2 wh2 st2 te2 w hd he hp hel hpl hd2 he2 hp2 hel2 hpl2 h0 h1 h2 h3 h4 h5 h6 h7 h8
                  case pos =>
                    by_cases h9 : te = te2
                    case neg => exact same_9 k Ad d cd Ae en ce tr Ap pa cp ta na wh st te k2 Ad2 d2 cd2 Ae2 en2 ce2 tr2 Ap2 pa2 cp2 ta2 na2 wh2 st2 te2 w hd he hp hel hpl hd2 he2 hp2 hel2 hpl2 h0 h1 h2 h3 h4 h5 h6 h7 h8 h9
                    case pos =>
                      exact same_10 k Ad d cd Ae en ce tr Ap pa cp ta na wh st te k2 Ad2 d2 cd2 Ae2 en2 ce2 tr2 Ap2 pa2 cp2 ta2 na2 wh2 st2 te2 w hd he hp hel hpl hd2 he2 hp2 hel2 hpl2 h0 h1 h2 h3 h4 h5 h6 h7 h8 h9
end Go.Proofs.Ytcefbhmmijmefaa
