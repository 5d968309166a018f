/- The walks of the layer 'object', its ninth part: may an object be? Conditions: lengths below 2^47. -/
import Derived.Test.YtcefbhmmijmefaaObj8
import Derived.Deep.RegionHeld3
namespace Go.Proofs.Ytcefbhmmijmefaa
open Go.RowKit Go.Dol
set_option linter.unusedVariables false

theorem nil_is (w : World) : (binOp .eql 77 .nilIface .nilIface).run Try.prog w = .ok (.bool true) w := by kernel_rfl
theorem nil_isnt (T : TypeId) (v : Value) (w : World) : (binOp .eql 77 (.iface T v) .nilIface).run Try.prog w = .ok (.bool false) w := by kernel_rfl
theorem m_right1 (xs : Array Value) (w : World) : (method 226 94 (.agg xs) "dolmen/object.right").run Try.prog w = .ok (107, .agg xs) w := by kernel_rfl
theorem m_right2 (xs : Array Value) (w : World) : (method 226 96 (.agg xs) "dolmen/object.right").run Try.prog w = .ok (110, .agg xs) w := by kernel_rfl
theorem m_right3 (xs : Array Value) (w : World) : (method 226 100 (.agg xs) "dolmen/object.right").run Try.prog w = .ok (116, .agg xs) w := by kernel_rfl
theorem m_right4 (xs : Array Value) (w : World) : (method 226 102 (.agg xs) "dolmen/object.right").run Try.prog w = .ok (119, .agg xs) w := by kernel_rfl

/-- The verdict as the program has it. -/
def errC (b : Bool) : Int := if b then 0 else 1
theorem bool_same {a b : Bool} (h : a = true ↔ b = true) : a = b := Bool.eq_iff_iff.2 h
theorem sz0 (s : ByteArray) : (s.size = 0) ↔ (⟨#[]⟩ = s) := ⟨fun h => (size_zero h).symm, fun h => by subst h; rfl⟩
theorem ln0 {α : Type} (l : List α) : (l.length = 0) ↔ ([] = l) := ⟨fun h => (List.eq_nil_of_length_eq_zero h).symm, fun h => by subst h; rfl⟩
theorem st0 (k : Int) : (k = 0) ↔ (0 = k) := ⟨Eq.symm, Eq.symm⟩
section
variable (d : List UInt8) (en : List Ent) (tr : ByteArray) (pa : List ByteArray) (ta na wh : ByteArray) (st : Int) (te : ByteArray)
theorem check1_iff (h : decide (d.length ≤ 1048576) = true) : checkB geS ⟨1, d, en, tr, pa, ta, na, wh, st, te⟩ = true ↔ ((1 : Int) = 1 ∧ d = d ∧ [] = en ∧ ⟨#[]⟩ = tr ∧ [] = pa ∧ ⟨#[]⟩ = ta ∧ ⟨#[]⟩ = na ∧ ⟨#[]⟩ = wh ∧ 0 = st ∧ ⟨#[]⟩ = te) := by
  unfold checkB noEnts noCommit noTag noTold
  simp only [if_true, h, Bool.true_and, Bool.and_eq_true, decide_eq_true_eq, sz0, ln0, st0 st, true_and, and_assoc]
  exact ⟨fun ⟨a, b, c, d, e, f, g, h⟩ => ⟨a, b, c, d, e, f, h, g⟩, fun ⟨a, b, c, d, e, f, g, h⟩ => ⟨a, b, c, d, e, f, h, g⟩⟩
theorem check2_iff (h : entsB geS en = true) : checkB geS ⟨2, d, en, tr, pa, ta, na, wh, st, te⟩ = true ↔ ((2 : Int) = 2 ∧ [] = d ∧ en = en ∧ ⟨#[]⟩ = tr ∧ [] = pa ∧ ⟨#[]⟩ = ta ∧ ⟨#[]⟩ = na ∧ ⟨#[]⟩ = wh ∧ 0 = st ∧ ⟨#[]⟩ = te) := by
  unfold checkB noData noCommit noTag noTold
  simp only [if_true, if_neg (show ¬ (2 : Int) = 1 by decide), h, Bool.true_and, Bool.and_eq_true, decide_eq_true_eq, sz0, ln0, st0 st, true_and, and_assoc]
  exact ⟨fun ⟨a, b, c, d, e, f, g, h⟩ => ⟨a, b, c, d, e, f, h, g⟩, fun ⟨a, b, c, d, e, f, g, h⟩ => ⟨a, b, c, d, e, f, h, g⟩⟩
theorem check3_iff (h : (decide (tr.size = 32) && parsB pa && toldB wh st te) = true) : checkB geS ⟨3, d, en, tr, pa, ta, na, wh, st, te⟩ = true ↔ ((3 : Int) = 3 ∧ [] = d ∧ [] = en ∧ tr = tr ∧ pa = pa ∧ ⟨#[]⟩ = ta ∧ ⟨#[]⟩ = na ∧ wh = wh ∧ st = st ∧ te = te) := by
  unfold checkB noData noEnts noTag
  simp only [if_true, if_neg (show ¬ (3 : Int) = 1 by decide), if_neg (show ¬ (3 : Int) = 2 by decide), h, Bool.true_and, Bool.and_eq_true, decide_eq_true_eq, sz0, ln0, true_and, and_true, and_assoc]
theorem check4_iff (h : (decide (ta.size = 32) && decide (1 ≤ na.size) && decide (na.size ≤ 200) && toldB wh st te) = true) : checkB geS ⟨4, d, en, tr, pa, ta, na, wh, st, te⟩ = true ↔ ((4 : Int) = 4 ∧ [] = d ∧ [] = en ∧ ⟨#[]⟩ = tr ∧ [] = pa ∧ ta = ta ∧ na = na ∧ wh = wh ∧ st = st ∧ te = te) := by
  unfold checkB noData noEnts noCommit
  simp only [if_true, if_neg (show ¬ (4 : Int) = 1 by decide), if_neg (show ¬ (4 : Int) = 2 by decide), if_neg (show ¬ (4 : Int) = 3 by decide), h, Bool.true_and, Bool.and_eq_true, decide_eq_true_eq, sz0, ln0, true_and, and_true, and_assoc]
end

theorem right1_is (Ad : Option Addr) (d : List UInt8) (cd : Nat) (v : Bool) (w : World) (h : Hid (decide (d.length ≤ 1048576) = v)) : Calls Try.prog 107 #[.agg #[.slice Ad d.length cd]] w fun e w' => e = .returned (.bool v) ∧ Below w.heap.size w w' :=
  (blobRight_calls Ad d.length cd w).mono fun e w' ⟨h1, h2⟩ => ⟨by rw [h1, h.out], h2⟩

theorem right2_is (Ae : Option Addr) (en : List Ent) (ce : Nat) (v : Bool) (w : World) (hr : Rd w w.heap.size 3 Ae en.length (ec en)) (hl : en.length ≤ 140737488355328) (h : Hid (entsB geS en = v)) : Calls Try.prog 110 #[.agg #[.slice Ae en.length ce]] w fun e w' => e = .returned (.bool v) ∧ Below w.heap.size w w' :=
  (treeRight_calls Ae en ce w hr hl).mono fun e w' ⟨h1, h2⟩ => ⟨by rw [h1, h.out], h2⟩

theorem right3_is (tr : ByteArray) (Ap : Option Addr) (pa : List ByteArray) (cp : Nat) (wh : ByteArray) (st : Int) (te : ByteArray) (v : Bool) (w : World) (hr : Rd w w.heap.size 1 Ap pa.length (pc pa)) (hl : pa.length ≤ 140737488355328) (hsz : Hid (∀ p ∈ pa, p.size ≤ maxLen)) (h : Hid ((decide (tr.size = 32) && parsB pa && toldB wh st te) = v)) : Calls Try.prog 116 #[.agg #[.string tr, .slice Ap pa.length cp, .string wh, .int .i64 st, .string te]] w fun e w' => e = .returned (.bool v) ∧ Below w.heap.size w w' :=
  (commitRight_calls tr Ap pa cp wh st te w hr hl hsz).mono fun e w' ⟨h1, h2⟩ => ⟨by rw [h1, h.out], h2⟩

theorem right4_is (ta na wh : ByteArray) (st : Int) (te : ByteArray) (v : Bool) (w : World) (h : Hid ((decide (ta.size = 32) && decide (1 ≤ na.size) && decide (na.size ≤ 200) && toldB wh st te) = v)) : Calls Try.prog 119 #[.agg #[.string ta, .string na, .string wh, .int .i64 st, .string te]] w fun e w' => e = .returned (.bool v) ∧ Below w.heap.size w w' :=
  (tagRight_calls ta na wh st te w).mono fun e w' ⟨h1, h2⟩ => ⟨by rw [h1, h.out], h2⟩

set_option maxRecDepth 100000 in
set_option maxHeartbeats 4000000 in
theorem Check1_wrong (Ad : Option Addr) (d : List UInt8) (cd : Nat) (Ae : Option Addr) (en : List Ent) (ce : Nat) (tr : ByteArray) (Ap : Option Addr) (pa : List ByteArray) (cp : Nat) (ta na wh : ByteArray) (st : Int) (te : ByteArray) (w : World) (hd : Rd w w.heap.size 1 Ad d.length (bc d)) (he : Rd w w.heap.size 3 Ae en.length (ec en)) (hp : Rd w w.heap.size 1 Ap pa.length (pc pa)) (hel : en.length ≤ 140737488355328) (hpl : pa.length ≤ 140737488355328) (HV : Hid (decide (d.length ≤ 1048576) = false)) :
    Calls Try.prog 40 #[.agg #[.int .i64 1, .slice Ad d.length cd, .slice Ae en.length ce, .string tr, .slice Ap pa.length cp, .string ta, .string na, .string wh, .int .i64 st, .string te]] w fun e w' => e = .returned (.int .i64 1) ∧ Below w.heap.size w w' := by
  have h1 := nil_is
  have h2 := nil_isnt
  have h3 := m_right1
  have hb0 : Below w.heap.size w (w.alloc (.cells #[.int .i64 1, .slice Ad d.length cd, .slice Ae en.length ce, .string tr, .slice Ap pa.length cp, .string ta, .string na, .string wh, .int .i64 st, .string te] 43)) := (Below.refl _ _).alloc (Nat.le_refl _) _
  have hB := Blk.new w 43 [.int .i64 1, .slice Ad d.length cd, .slice Ae en.length ce, .string tr, .slice Ap pa.length cp, .string ta, .string na, .string wh, .int .i64 st, .string te]
  go_enter Try.func40, Try.ntmps40
  go_wp2_with ((go_at_call 65; refine (of1_calls Ad d.length cd Ae en.length ce tr Ap pa.length cp ta na wh st te _).mono ?_; rintro e w1 ⟨rfl, hb1⟩))
  have hB1 := hB.below hb1 hB.lt
  have hBd := hB1.drew
  have hbw := hb0.next hb1
  have hre : Rd w1.drew w1.drew.heap.size 3 Ae en.length (ec en) := ((he.below hbw).more hbw.size).drew
  have hrp : Rd w1.drew w1.drew.heap.size 1 Ap pa.length (pc pa) := ((hp.below hbw).more hbw.size).drew
  first | (go_region_with ((first
    | (go_at_call 107; (with_reducible refine (right1_is Ad d cd _ _ HV).mono ?_); rintro e w2 ⟨rfl, hb2⟩)))) | fail "with"
  all_goals go_wp2_with fail
  all_goals go_ret
  all_goals exact ⟨rfl, (hb0.next hb1).next ((Below.refl _ _).drew.trans hb2)⟩

set_option maxRecDepth 100000 in
set_option maxHeartbeats 4000000 in
theorem Check1_right (Ad : Option Addr) (d : List UInt8) (cd : Nat) (Ae : Option Addr) (en : List Ent) (ce : Nat) (tr : ByteArray) (Ap : Option Addr) (pa : List ByteArray) (cp : Nat) (ta na wh : ByteArray) (st : Int) (te : ByteArray) (w : World) (hd : Rd w w.heap.size 1 Ad d.length (bc d)) (he : Rd w w.heap.size 3 Ae en.length (ec en)) (hp : Rd w w.heap.size 1 Ap pa.length (pc pa)) (hel : en.length ≤ 140737488355328) (hpl : pa.length ≤ 140737488355328) (HV : Hid (decide (d.length ≤ 1048576) = true)) :
    Calls Try.prog 40 #[.agg #[.int .i64 1, .slice Ad d.length cd, .slice Ae en.length ce, .string tr, .slice Ap pa.length cp, .string ta, .string na, .string wh, .int .i64 st, .string te]] w fun e w' => e = .returned (.int .i64 (errC (checkB geS ⟨1, d, en, tr, pa, ta, na, wh, st, te⟩))) ∧ Below w.heap.size w w' := by
  have h1 := nil_is
  have h2 := nil_isnt
  have h3 := m_right1
  have hb0 : Below w.heap.size w (w.alloc (.cells #[.int .i64 1, .slice Ad d.length cd, .slice Ae en.length ce, .string tr, .slice Ap pa.length cp, .string ta, .string na, .string wh, .int .i64 st, .string te] 43)) := (Below.refl _ _).alloc (Nat.le_refl _) _
  have hB := Blk.new w 43 [.int .i64 1, .slice Ad d.length cd, .slice Ae en.length ce, .string tr, .slice Ap pa.length cp, .string ta, .string na, .string wh, .int .i64 st, .string te]
  go_enter Try.func40, Try.ntmps40
  go_wp2_with ((go_at_call 65; refine (of1_calls Ad d.length cd Ae en.length ce tr Ap pa.length cp ta na wh st te _).mono ?_; rintro e w1 ⟨rfl, hb1⟩))
  have hB1 := hB.below hb1 hB.lt
  have hBd := hB1.drew
  have hbw := hb0.next hb1
  have hre : Rd w1.drew w1.drew.heap.size 3 Ae en.length (ec en) := ((he.below hbw).more hbw.size).drew
  have hrp : Rd w1.drew w1.drew.heap.size 1 Ap pa.length (pc pa) := ((hp.below hbw).more hbw.size).drew
  have hrd : Rd w1.drew w1.drew.heap.size 1 Ad d.length (bc d) := ((hd.below hbw).more hbw.size).drew
  go_region_held3 (fun w' => w'.cell? ⟨w.heap.size, 0, none⟩ = some (.int .i64 1) ∧ w'.cell? ⟨w.heap.size, 1, none⟩ = some (.slice Ad d.length cd) ∧ w'.cell? ⟨w.heap.size, 2, none⟩ = some (.slice Ae en.length ce) ∧ w'.cell? ⟨w.heap.size, 3, none⟩ = some (.string tr) ∧ w'.cell? ⟨w.heap.size, 4, none⟩ = some (.slice Ap pa.length cp) ∧ w'.cell? ⟨w.heap.size, 5, none⟩ = some (.string ta) ∧ w'.cell? ⟨w.heap.size, 6, none⟩ = some (.string na) ∧ w'.cell? ⟨w.heap.size, 7, none⟩ = some (.string wh) ∧ w'.cell? ⟨w.heap.size, 8, none⟩ = some (.int .i64 st) ∧ w'.cell? ⟨w.heap.size, 9, none⟩ = some (.string te)) (first | exact obj_cells hBd | exact obj_cells hB2 | exact obj_cells hB3 | exact obj_cells hB4 | go_keep) ((first
    | (go_at_call 107; (with_reducible refine (right1_is Ad d cd _ _ HV).mono ?_); rintro e w2 ⟨rfl, hb2⟩; have hB2 := hBd.below hb2 hBd.lt)
    | (go_at_call 59; (with_reducible refine (made1_calls Ad d.length cd Ae en.length ce tr Ap pa.length cp ta na wh st te _).mono ?_); rintro e w3 ⟨rfl, hb3⟩; have hB3 := hB2.below hb3 hB2.lt; have hb23 := hb2.next hb3; have re3 := (hre.below hb23).more hb23.size; have rp3 := (hrp.below hb23).more hb23.size; have rd3 := (hrd.below hb23).more hb23.size)
    | (go_at_call 66; (have hs := same_calls 1 Ad d cd none [] 0 ⟨#[]⟩ none [] 0 ⟨#[]⟩ ⟨#[]⟩ ⟨#[]⟩ 0 ⟨#[]⟩ 1 Ad d cd Ae en ce tr Ap pa cp ta na wh st te w3 rd3 Rd.nil Rd.nil (by simp) (by simp) rd3 re3 rp3 hel hpl); (try simp only [List.length_nil] at hs); (with_reducible refine hs.mono ?_); rintro e w4 ⟨v, rfl, hv, hb4⟩; have h5 := check1_iff d en tr pa ta na wh st te HV.out; simp only [eq_self] at h5; have HF : Hid (checkB geS ⟨1, d, en, tr, pa, ta, na, wh, st, te⟩ = v) := Lib.hid (bool_same (h5.trans hv.symm)); clear h5; clear hv; have hB4 := hB3.below hb4 hB3.lt)))
  have hbe : Below w.heap.size w w4 := hbw.trans ((Below.refl _ _).drew.trans (((hb23.next hb4).mono hbw.size)))
  cases v with
  | true =>
    go_wp2_with fail
    go_ret
    rw [HF.out]
    exact ⟨rfl, hbe⟩
  | false =>
    go_wp2_with fail
    go_ret
    rw [HF.out]
    exact ⟨rfl, hbe⟩

set_option maxRecDepth 100000 in
set_option maxHeartbeats 4000000 in
theorem Check2_wrong (Ad : Option Addr) (d : List UInt8) (cd : Nat) (Ae : Option Addr) (en : List Ent) (ce : Nat) (tr : ByteArray) (Ap : Option Addr) (pa : List ByteArray) (cp : Nat) (ta na wh : ByteArray) (st : Int) (te : ByteArray) (w : World) (hd : Rd w w.heap.size 1 Ad d.length (bc d)) (he : Rd w w.heap.size 3 Ae en.length (ec en)) (hp : Rd w w.heap.size 1 Ap pa.length (pc pa)) (hel : en.length ≤ 140737488355328) (hpl : pa.length ≤ 140737488355328) (HV : Hid (entsB geS en = false)) :
    Calls Try.prog 40 #[.agg #[.int .i64 2, .slice Ad d.length cd, .slice Ae en.length ce, .string tr, .slice Ap pa.length cp, .string ta, .string na, .string wh, .int .i64 st, .string te]] w fun e w' => e = .returned (.int .i64 1) ∧ Below w.heap.size w w' := by
  have h1 := nil_is
  have h2 := nil_isnt
  have h3 := m_right2
  have hb0 : Below w.heap.size w (w.alloc (.cells #[.int .i64 2, .slice Ad d.length cd, .slice Ae en.length ce, .string tr, .slice Ap pa.length cp, .string ta, .string na, .string wh, .int .i64 st, .string te] 43)) := (Below.refl _ _).alloc (Nat.le_refl _) _
  have hB := Blk.new w 43 [.int .i64 2, .slice Ad d.length cd, .slice Ae en.length ce, .string tr, .slice Ap pa.length cp, .string ta, .string na, .string wh, .int .i64 st, .string te]
  go_enter Try.func40, Try.ntmps40
  go_wp2_with ((go_at_call 65; refine (of2_calls Ad d.length cd Ae en.length ce tr Ap pa.length cp ta na wh st te _).mono ?_; rintro e w1 ⟨rfl, hb1⟩))
  have hB1 := hB.below hb1 hB.lt
  have hBd := hB1.drew
  have hbw := hb0.next hb1
  have hre : Rd w1.drew w1.drew.heap.size 3 Ae en.length (ec en) := ((he.below hbw).more hbw.size).drew
  have hrp : Rd w1.drew w1.drew.heap.size 1 Ap pa.length (pc pa) := ((hp.below hbw).more hbw.size).drew
  first | (go_region_with ((first
    | (go_at_call 110; (with_reducible refine (right2_is Ae en ce _ _ hre hel HV).mono ?_); rintro e w2 ⟨rfl, hb2⟩)))) | fail "with"
  all_goals go_wp2_with fail
  all_goals go_ret
  all_goals exact ⟨rfl, (hb0.next hb1).next ((Below.refl _ _).drew.trans hb2)⟩

set_option maxRecDepth 100000 in
set_option maxHeartbeats 4000000 in
theorem Check2_right (Ad : Option Addr) (d : List UInt8) (cd : Nat) (Ae : Option Addr) (en : List Ent) (ce : Nat) (tr : ByteArray) (Ap : Option Addr) (pa : List ByteArray) (cp : Nat) (ta na wh : ByteArray) (st : Int) (te : ByteArray) (w : World) (hd : Rd w w.heap.size 1 Ad d.length (bc d)) (he : Rd w w.heap.size 3 Ae en.length (ec en)) (hp : Rd w w.heap.size 1 Ap pa.length (pc pa)) (hel : en.length ≤ 140737488355328) (hpl : pa.length ≤ 140737488355328) (HV : Hid (entsB geS en = true)) :
    Calls Try.prog 40 #[.agg #[.int .i64 2, .slice Ad d.length cd, .slice Ae en.length ce, .string tr, .slice Ap pa.length cp, .string ta, .string na, .string wh, .int .i64 st, .string te]] w fun e w' => e = .returned (.int .i64 (errC (checkB geS ⟨2, d, en, tr, pa, ta, na, wh, st, te⟩))) ∧ Below w.heap.size w w' := by
  have h1 := nil_is
  have h2 := nil_isnt
  have h3 := m_right2
  have hb0 : Below w.heap.size w (w.alloc (.cells #[.int .i64 2, .slice Ad d.length cd, .slice Ae en.length ce, .string tr, .slice Ap pa.length cp, .string ta, .string na, .string wh, .int .i64 st, .string te] 43)) := (Below.refl _ _).alloc (Nat.le_refl _) _
  have hB := Blk.new w 43 [.int .i64 2, .slice Ad d.length cd, .slice Ae en.length ce, .string tr, .slice Ap pa.length cp, .string ta, .string na, .string wh, .int .i64 st, .string te]
  go_enter Try.func40, Try.ntmps40
  go_wp2_with ((go_at_call 65; refine (of2_calls Ad d.length cd Ae en.length ce tr Ap pa.length cp ta na wh st te _).mono ?_; rintro e w1 ⟨rfl, hb1⟩))
  have hB1 := hB.below hb1 hB.lt
  have hBd := hB1.drew
  have hbw := hb0.next hb1
  have hre : Rd w1.drew w1.drew.heap.size 3 Ae en.length (ec en) := ((he.below hbw).more hbw.size).drew
  have hrp : Rd w1.drew w1.drew.heap.size 1 Ap pa.length (pc pa) := ((hp.below hbw).more hbw.size).drew
  have hrd : Rd w1.drew w1.drew.heap.size 1 Ad d.length (bc d) := ((hd.below hbw).more hbw.size).drew
  go_region_held3 (fun w' => w'.cell? ⟨w.heap.size, 0, none⟩ = some (.int .i64 2) ∧ w'.cell? ⟨w.heap.size, 1, none⟩ = some (.slice Ad d.length cd) ∧ w'.cell? ⟨w.heap.size, 2, none⟩ = some (.slice Ae en.length ce) ∧ w'.cell? ⟨w.heap.size, 3, none⟩ = some (.string tr) ∧ w'.cell? ⟨w.heap.size, 4, none⟩ = some (.slice Ap pa.length cp) ∧ w'.cell? ⟨w.heap.size, 5, none⟩ = some (.string ta) ∧ w'.cell? ⟨w.heap.size, 6, none⟩ = some (.string na) ∧ w'.cell? ⟨w.heap.size, 7, none⟩ = some (.string wh) ∧ w'.cell? ⟨w.heap.size, 8, none⟩ = some (.int .i64 st) ∧ w'.cell? ⟨w.heap.size, 9, none⟩ = some (.string te)) (first | exact obj_cells hBd | exact obj_cells hB2 | exact obj_cells hB3 | exact obj_cells hB4 | go_keep) ((first
    | (go_at_call 110; (with_reducible refine (right2_is Ae en ce _ _ hre hel HV).mono ?_); rintro e w2 ⟨rfl, hb2⟩; have hB2 := hBd.below hb2 hBd.lt)
    | (go_at_call 59; (with_reducible refine (made2_calls Ad d.length cd Ae en.length ce tr Ap pa.length cp ta na wh st te _).mono ?_); rintro e w3 ⟨rfl, hb3⟩; have hB3 := hB2.below hb3 hB2.lt; have hb23 := hb2.next hb3; have re3 := (hre.below hb23).more hb23.size; have rp3 := (hrp.below hb23).more hb23.size; have rd3 := (hrd.below hb23).more hb23.size)
    | (go_at_call 66; (have hs := same_calls 2 none [] 0 Ae en ce ⟨#[]⟩ none [] 0 ⟨#[]⟩ ⟨#[]⟩ ⟨#[]⟩ 0 ⟨#[]⟩ 2 Ad d cd Ae en ce tr Ap pa cp ta na wh st te w3 Rd.nil re3 Rd.nil hel (by simp) rd3 re3 rp3 hel hpl); (try simp only [List.length_nil] at hs); (with_reducible refine hs.mono ?_); rintro e w4 ⟨v, rfl, hv, hb4⟩; have h5 := check2_iff d en tr pa ta na wh st te HV.out; simp only [eq_self] at h5; have HF : Hid (checkB geS ⟨2, d, en, tr, pa, ta, na, wh, st, te⟩ = v) := Lib.hid (bool_same (h5.trans hv.symm)); clear h5; clear hv; have hB4 := hB3.below hb4 hB3.lt)))
  have hbe : Below w.heap.size w w4 := hbw.trans ((Below.refl _ _).drew.trans (((hb23.next hb4).mono hbw.size)))
  cases v with
  | true =>
    go_wp2_with fail
    go_ret
    rw [HF.out]
    exact ⟨rfl, hbe⟩
  | false =>
    go_wp2_with fail
    go_ret
    rw [HF.out]
    exact ⟨rfl, hbe⟩

set_option maxRecDepth 100000 in
set_option maxHeartbeats 4000000 in
theorem Check3_wrong (Ad : Option Addr) (d : List UInt8) (cd : Nat) (Ae : Option Addr) (en : List Ent) (ce : Nat) (tr : ByteArray) (Ap : Option Addr) (pa : List ByteArray) (cp : Nat) (ta na wh : ByteArray) (st : Int) (te : ByteArray) (w : World) (hd : Rd w w.heap.size 1 Ad d.length (bc d)) (he : Rd w w.heap.size 3 Ae en.length (ec en)) (hp : Rd w w.heap.size 1 Ap pa.length (pc pa)) (hel : en.length ≤ 140737488355328) (hpl : pa.length ≤ 140737488355328) (hsz : Hid (∀ p ∈ pa, p.size ≤ maxLen)) (HV : Hid ((decide (tr.size = 32) && parsB pa && toldB wh st te) = false)) :
    Calls Try.prog 40 #[.agg #[.int .i64 3, .slice Ad d.length cd, .slice Ae en.length ce, .string tr, .slice Ap pa.length cp, .string ta, .string na, .string wh, .int .i64 st, .string te]] w fun e w' => e = .returned (.int .i64 1) ∧ Below w.heap.size w w' := by
  have h1 := nil_is
  have h2 := nil_isnt
  have h3 := m_right3
  have hb0 : Below w.heap.size w (w.alloc (.cells #[.int .i64 3, .slice Ad d.length cd, .slice Ae en.length ce, .string tr, .slice Ap pa.length cp, .string ta, .string na, .string wh, .int .i64 st, .string te] 43)) := (Below.refl _ _).alloc (Nat.le_refl _) _
  have hB := Blk.new w 43 [.int .i64 3, .slice Ad d.length cd, .slice Ae en.length ce, .string tr, .slice Ap pa.length cp, .string ta, .string na, .string wh, .int .i64 st, .string te]
  go_enter Try.func40, Try.ntmps40
  go_wp2_with ((go_at_call 65; refine (of3_calls Ad d.length cd Ae en.length ce tr Ap pa.length cp ta na wh st te _).mono ?_; rintro e w1 ⟨rfl, hb1⟩))
  have hB1 := hB.below hb1 hB.lt
  have hBd := hB1.drew
  have hbw := hb0.next hb1
  have hre : Rd w1.drew w1.drew.heap.size 3 Ae en.length (ec en) := ((he.below hbw).more hbw.size).drew
  have hrp : Rd w1.drew w1.drew.heap.size 1 Ap pa.length (pc pa) := ((hp.below hbw).more hbw.size).drew
  first | (go_region_with ((first
    | (go_at_call 116; (with_reducible refine (right3_is tr Ap pa cp wh st te _ _ hrp hpl hsz HV).mono ?_); rintro e w2 ⟨rfl, hb2⟩)))) | fail "with"
  all_goals go_wp2_with fail
  all_goals go_ret
  all_goals exact ⟨rfl, (hb0.next hb1).next ((Below.refl _ _).drew.trans hb2)⟩

set_option maxRecDepth 100000 in
set_option maxHeartbeats 4000000 in
theorem Check3_right (Ad : Option Addr) (d : List UInt8) (cd : Nat) (Ae : Option Addr) (en : List Ent) (ce : Nat) (tr : ByteArray) (Ap : Option Addr) (pa : List ByteArray) (cp : Nat) (ta na wh : ByteArray) (st : Int) (te : ByteArray) (w : World) (hd : Rd w w.heap.size 1 Ad d.length (bc d)) (he : Rd w w.heap.size 3 Ae en.length (ec en)) (hp : Rd w w.heap.size 1 Ap pa.length (pc pa)) (hel : en.length ≤ 140737488355328) (hpl : pa.length ≤ 140737488355328) (hsz : Hid (∀ p ∈ pa, p.size ≤ maxLen)) (HV : Hid ((decide (tr.size = 32) && parsB pa && toldB wh st te) = true)) :
    Calls Try.prog 40 #[.agg #[.int .i64 3, .slice Ad d.length cd, .slice Ae en.length ce, .string tr, .slice Ap pa.length cp, .string ta, .string na, .string wh, .int .i64 st, .string te]] w fun e w' => e = .returned (.int .i64 (errC (checkB geS ⟨3, d, en, tr, pa, ta, na, wh, st, te⟩))) ∧ Below w.heap.size w w' := by
  have h1 := nil_is
  have h2 := nil_isnt
  have h3 := m_right3
  have hb0 : Below w.heap.size w (w.alloc (.cells #[.int .i64 3, .slice Ad d.length cd, .slice Ae en.length ce, .string tr, .slice Ap pa.length cp, .string ta, .string na, .string wh, .int .i64 st, .string te] 43)) := (Below.refl _ _).alloc (Nat.le_refl _) _
  have hB := Blk.new w 43 [.int .i64 3, .slice Ad d.length cd, .slice Ae en.length ce, .string tr, .slice Ap pa.length cp, .string ta, .string na, .string wh, .int .i64 st, .string te]
  go_enter Try.func40, Try.ntmps40
  go_wp2_with ((go_at_call 65; refine (of3_calls Ad d.length cd Ae en.length ce tr Ap pa.length cp ta na wh st te _).mono ?_; rintro e w1 ⟨rfl, hb1⟩))
  have hB1 := hB.below hb1 hB.lt
  have hBd := hB1.drew
  have hbw := hb0.next hb1
  have hre : Rd w1.drew w1.drew.heap.size 3 Ae en.length (ec en) := ((he.below hbw).more hbw.size).drew
  have hrp : Rd w1.drew w1.drew.heap.size 1 Ap pa.length (pc pa) := ((hp.below hbw).more hbw.size).drew
  have hrd : Rd w1.drew w1.drew.heap.size 1 Ad d.length (bc d) := ((hd.below hbw).more hbw.size).drew
  go_region_held3 (fun w' => w'.cell? ⟨w.heap.size, 0, none⟩ = some (.int .i64 3) ∧ w'.cell? ⟨w.heap.size, 1, none⟩ = some (.slice Ad d.length cd) ∧ w'.cell? ⟨w.heap.size, 2, none⟩ = some (.slice Ae en.length ce) ∧ w'.cell? ⟨w.heap.size, 3, none⟩ = some (.string tr) ∧ w'.cell? ⟨w.heap.size, 4, none⟩ = some (.slice Ap pa.length cp) ∧ w'.cell? ⟨w.heap.size, 5, none⟩ = some (.string ta) ∧ w'.cell? ⟨w.heap.size, 6, none⟩ = some (.string na) ∧ w'.cell? ⟨w.heap.size, 7, none⟩ = some (.string wh) ∧ w'.cell? ⟨w.heap.size, 8, none⟩ = some (.int .i64 st) ∧ w'.cell? ⟨w.heap.size, 9, none⟩ = some (.string te)) (first | exact obj_cells hBd | exact obj_cells hB2 | exact obj_cells hB3 | exact obj_cells hB4 | go_keep) ((first
    | (go_at_call 116; (with_reducible refine (right3_is tr Ap pa cp wh st te _ _ hrp hpl hsz HV).mono ?_); rintro e w2 ⟨rfl, hb2⟩; have hB2 := hBd.below hb2 hBd.lt)
    | (go_at_call 59; (with_reducible refine (made3_calls Ad d.length cd Ae en.length ce tr Ap pa.length cp ta na wh st te _).mono ?_); rintro e w3 ⟨rfl, hb3⟩; have hB3 := hB2.below hb3 hB2.lt; have hb23 := hb2.next hb3; have re3 := (hre.below hb23).more hb23.size; have rp3 := (hrp.below hb23).more hb23.size; have rd3 := (hrd.below hb23).more hb23.size)
    | (go_at_call 66; (have hs := same_calls 3 none [] 0 none [] 0 tr Ap pa cp ⟨#[]⟩ ⟨#[]⟩ wh st te 3 Ad d cd Ae en ce tr Ap pa cp ta na wh st te w3 Rd.nil Rd.nil rp3 (by simp) hpl rd3 re3 rp3 hel hpl); (try simp only [List.length_nil] at hs); (with_reducible refine hs.mono ?_); rintro e w4 ⟨v, rfl, hv, hb4⟩; have h5 := check3_iff d en tr pa ta na wh st te HV.out; simp only [eq_self] at h5; have HF : Hid (checkB geS ⟨3, d, en, tr, pa, ta, na, wh, st, te⟩ = v) := Lib.hid (bool_same (h5.trans hv.symm)); clear h5; clear hv; have hB4 := hB3.below hb4 hB3.lt)))
  have hbe : Below w.heap.size w w4 := hbw.trans ((Below.refl _ _).drew.trans (((hb23.next hb4).mono hbw.size)))
  cases v with
  | true =>
    go_wp2_with fail
    go_ret
    rw [HF.out]
    exact ⟨rfl, hbe⟩
  | false =>
    go_wp2_with fail
    go_ret
    rw [HF.out]
    exact ⟨rfl, hbe⟩

set_option maxRecDepth 100000 in
set_option maxHeartbeats 4000000 in
theorem Check4_wrong (Ad : Option Addr) (d : List UInt8) (cd : Nat) (Ae : Option Addr) (en : List Ent) (ce : Nat) (tr : ByteArray) (Ap : Option Addr) (pa : List ByteArray) (cp : Nat) (ta na wh : ByteArray) (st : Int) (te : ByteArray) (w : World) (hd : Rd w w.heap.size 1 Ad d.length (bc d)) (he : Rd w w.heap.size 3 Ae en.length (ec en)) (hp : Rd w w.heap.size 1 Ap pa.length (pc pa)) (hel : en.length ≤ 140737488355328) (hpl : pa.length ≤ 140737488355328) (HV : Hid ((decide (ta.size = 32) && decide (1 ≤ na.size) && decide (na.size ≤ 200) && toldB wh st te) = false)) :
    Calls Try.prog 40 #[.agg #[.int .i64 4, .slice Ad d.length cd, .slice Ae en.length ce, .string tr, .slice Ap pa.length cp, .string ta, .string na, .string wh, .int .i64 st, .string te]] w fun e w' => e = .returned (.int .i64 1) ∧ Below w.heap.size w w' := by
  have h1 := nil_is
  have h2 := nil_isnt
  have h3 := m_right4
  have hb0 : Below w.heap.size w (w.alloc (.cells #[.int .i64 4, .slice Ad d.length cd, .slice Ae en.length ce, .string tr, .slice Ap pa.length cp, .string ta, .string na, .string wh, .int .i64 st, .string te] 43)) := (Below.refl _ _).alloc (Nat.le_refl _) _
  have hB := Blk.new w 43 [.int .i64 4, .slice Ad d.length cd, .slice Ae en.length ce, .string tr, .slice Ap pa.length cp, .string ta, .string na, .string wh, .int .i64 st, .string te]
  go_enter Try.func40, Try.ntmps40
  go_wp2_with ((go_at_call 65; refine (of4_calls Ad d.length cd Ae en.length ce tr Ap pa.length cp ta na wh st te _).mono ?_; rintro e w1 ⟨rfl, hb1⟩))
  have hB1 := hB.below hb1 hB.lt
  have hBd := hB1.drew
  have hbw := hb0.next hb1
  have hre : Rd w1.drew w1.drew.heap.size 3 Ae en.length (ec en) := ((he.below hbw).more hbw.size).drew
  have hrp : Rd w1.drew w1.drew.heap.size 1 Ap pa.length (pc pa) := ((hp.below hbw).more hbw.size).drew
  first | (go_region_with ((first
    | (go_at_call 119; (with_reducible refine (right4_is ta na wh st te _ _ HV).mono ?_); rintro e w2 ⟨rfl, hb2⟩)))) | fail "with"
  all_goals go_wp2_with fail
  all_goals go_ret
  all_goals exact ⟨rfl, (hb0.next hb1).next ((Below.refl _ _).drew.trans hb2)⟩

set_option maxRecDepth 100000 in
set_option maxHeartbeats 4000000 in
theorem Check4_right (Ad : Option Addr) (d : List UInt8) (cd : Nat) (Ae : Option Addr) (en : List Ent) (ce : Nat) (tr : ByteArray) (Ap : Option Addr) (pa : List ByteArray) (cp : Nat) (ta na wh : ByteArray) (st : Int) (te : ByteArray) (w : World) (hd : Rd w w.heap.size 1 Ad d.length (bc d)) (he : Rd w w.heap.size 3 Ae en.length (ec en)) (hp : Rd w w.heap.size 1 Ap pa.length (pc pa)) (hel : en.length ≤ 140737488355328) (hpl : pa.length ≤ 140737488355328) (HV : Hid ((decide (ta.size = 32) && decide (1 ≤ na.size) && decide (na.size ≤ 200) && toldB wh st te) = true)) :
    Calls Try.prog 40 #[.agg #[.int .i64 4, .slice Ad d.length cd, .slice Ae en.length ce, .string tr, .slice Ap pa.length cp, .string ta, .string na, .string wh, .int .i64 st, .string te]] w fun e w' => e = .returned (.int .i64 (errC (checkB geS ⟨4, d, en, tr, pa, ta, na, wh, st, te⟩))) ∧ Below w.heap.size w w' := by
  have h1 := nil_is
  have h2 := nil_isnt
  have h3 := m_right4
  have hb0 : Below w.heap.size w (w.alloc (.cells #[.int .i64 4, .slice Ad d.length cd, .slice Ae en.length ce, .string tr, .slice Ap pa.length cp, .string ta, .string na, .string wh, .int .i64 st, .string te] 43)) := (Below.refl _ _).alloc (Nat.le_refl _) _
  have hB := Blk.new w 43 [.int .i64 4, .slice Ad d.length cd, .slice Ae en.length ce, .string tr, .slice Ap pa.length cp, .string ta, .string na, .string wh, .int .i64 st, .string te]
  go_enter Try.func40, Try.ntmps40
  go_wp2_with ((go_at_call 65; refine (of4_calls Ad d.length cd Ae en.length ce tr Ap pa.length cp ta na wh st te _).mono ?_; rintro e w1 ⟨rfl, hb1⟩))
  have hB1 := hB.below hb1 hB.lt
  have hBd := hB1.drew
  have hbw := hb0.next hb1
  have hre : Rd w1.drew w1.drew.heap.size 3 Ae en.length (ec en) := ((he.below hbw).more hbw.size).drew
  have hrp : Rd w1.drew w1.drew.heap.size 1 Ap pa.length (pc pa) := ((hp.below hbw).more hbw.size).drew
  have hrd : Rd w1.drew w1.drew.heap.size 1 Ad d.length (bc d) := ((hd.below hbw).more hbw.size).drew
  go_region_held3 (fun w' => w'.cell? ⟨w.heap.size, 0, none⟩ = some (.int .i64 4) ∧ w'.cell? ⟨w.heap.size, 1, none⟩ = some (.slice Ad d.length cd) ∧ w'.cell? ⟨w.heap.size, 2, none⟩ = some (.slice Ae en.length ce) ∧ w'.cell? ⟨w.heap.size, 3, none⟩ = some (.string tr) ∧ w'.cell? ⟨w.heap.size, 4, none⟩ = some (.slice Ap pa.length cp) ∧ w'.cell? ⟨w.heap.size, 5, none⟩ = some (.string ta) ∧ w'.cell? ⟨w.heap.size, 6, none⟩ = some (.string na) ∧ w'.cell? ⟨w.heap.size, 7, none⟩ = some (.string wh) ∧ w'.cell? ⟨w.heap.size, 8, none⟩ = some (.int .i64 st) ∧ w'.cell? ⟨w.heap.size, 9, none⟩ = some (.string te)) (first | exact obj_cells hBd | exact obj_cells hB2 | exact obj_cells hB3 | exact obj_cells hB4 | go_keep) ((first
    | (go_at_call 119; (with_reducible refine (right4_is ta na wh st te _ _ HV).mono ?_); rintro e w2 ⟨rfl, hb2⟩; have hB2 := hBd.below hb2 hBd.lt)
    | (go_at_call 59; (with_reducible refine (made4_calls Ad d.length cd Ae en.length ce tr Ap pa.length cp ta na wh st te _).mono ?_); rintro e w3 ⟨rfl, hb3⟩; have hB3 := hB2.below hb3 hB2.lt; have hb23 := hb2.next hb3; have re3 := (hre.below hb23).more hb23.size; have rp3 := (hrp.below hb23).more hb23.size; have rd3 := (hrd.below hb23).more hb23.size)
    | (go_at_call 66; (have hs := same_calls 4 none [] 0 none [] 0 ⟨#[]⟩ none [] 0 ta na wh st te 4 Ad d cd Ae en ce tr Ap pa cp ta na wh st te w3 Rd.nil Rd.nil Rd.nil (by simp) (by simp) rd3 re3 rp3 hel hpl); (try simp only [List.length_nil] at hs); (with_reducible refine hs.mono ?_); rintro e w4 ⟨v, rfl, hv, hb4⟩; have h5 := check4_iff d en tr pa ta na wh st te HV.out; simp only [eq_self] at h5; have HF : Hid (checkB geS ⟨4, d, en, tr, pa, ta, na, wh, st, te⟩ = v) := Lib.hid (bool_same (h5.trans hv.symm)); clear h5; clear hv; have hB4 := hB3.below hb4 hB3.lt)))
  have hbe : Below w.heap.size w w4 := hbw.trans ((Below.refl _ _).drew.trans (((hb23.next hb4).mono hbw.size)))
  cases v with
  | true =>
    go_wp2_with fail
    go_ret
    rw [HF.out]
    exact ⟨rfl, hbe⟩
  | false =>
    go_wp2_with fail
    go_ret
    rw [HF.out]
    exact ⟨rfl, hbe⟩

set_option maxRecDepth 100000 in
set_option maxHeartbeats 4000000 in
theorem CheckN_calls (k : Int) (Ad : Option Addr) (d : List UInt8) (cd : Nat) (Ae : Option Addr) (en : List Ent) (ce : Nat) (tr : ByteArray) (Ap : Option Addr) (pa : List ByteArray) (cp : Nat) (ta na wh : ByteArray) (st : Int) (te : ByteArray) (w : World) (hd : Rd w w.heap.size 1 Ad d.length (bc d)) (he : Rd w w.heap.size 3 Ae en.length (ec en)) (hp : Rd w w.heap.size 1 Ap pa.length (pc pa)) (hel : en.length ≤ 140737488355328) (hpl : pa.length ≤ 140737488355328) (n1 : k ≠ 1) (n2 : k ≠ 2) (n3 : k ≠ 3) (n4 : k ≠ 4) :
    Calls Try.prog 40 #[.agg #[.int .i64 k, .slice Ad d.length cd, .slice Ae en.length ce, .string tr, .slice Ap pa.length cp, .string ta, .string na, .string wh, .int .i64 st, .string te]] w fun e w' => e = .returned (.int .i64 1) ∧ Below w.heap.size w w' := by
  have h1 := nil_is
  have hb0 : Below w.heap.size w (w.alloc (.cells #[.int .i64 k, .slice Ad d.length cd, .slice Ae en.length ce, .string tr, .slice Ap pa.length cp, .string ta, .string na, .string wh, .int .i64 st, .string te] 43)) := (Below.refl _ _).alloc (Nat.le_refl _) _
  have hB := Blk.new w 43 [.int .i64 k, .slice Ad d.length cd, .slice Ae en.length ce, .string tr, .slice Ap pa.length cp, .string ta, .string na, .string wh, .int .i64 st, .string te]
  go_enter Try.func40, Try.ntmps40
  go_wp2_with ((go_at_call 65; refine (ofN_calls Ad d.length cd Ae en.length ce tr Ap pa.length cp ta na wh st te _ k n1 n2 n3 n4).mono ?_; rintro e w1 ⟨rfl, hb1⟩))
  have hB1 := hB.below hb1 hB.lt
  have hbw := hb0.next hb1
  first | (go_region_with ((fail))) | fail "with"
  all_goals go_wp2_with fail
  all_goals go_ret
  all_goals exact ⟨rfl, hbw.drew⟩

theorem Check_calls (k : Int) (Ad : Option Addr) (d : List UInt8) (cd : Nat) (Ae : Option Addr) (en : List Ent) (ce : Nat) (tr : ByteArray) (Ap : Option Addr) (pa : List ByteArray) (cp : Nat) (ta na wh : ByteArray) (st : Int) (te : ByteArray) (w : World) (hd : Rd w w.heap.size 1 Ad d.length (bc d)) (he : Rd w w.heap.size 3 Ae en.length (ec en)) (hp : Rd w w.heap.size 1 Ap pa.length (pc pa)) (hel : en.length ≤ 140737488355328) (hpl : pa.length ≤ 140737488355328) (hsz : Hid (∀ p ∈ pa, p.size ≤ maxLen)) :
    Calls Try.prog 40 #[.agg #[.int .i64 k, .slice Ad d.length cd, .slice Ae en.length ce, .string tr, .slice Ap pa.length cp, .string ta, .string na, .string wh, .int .i64 st, .string te]] w fun e w' => e = .returned (.int .i64 (errC (checkB geS ⟨k, d, en, tr, pa, ta, na, wh, st, te⟩))) ∧ Below w.heap.size w w' := by
  by_cases n1 : k = 1
  · subst n1
    cases hv : decide (d.length ≤ 1048576) with
    | true => exact Check1_right Ad d cd Ae en ce tr Ap pa cp ta na wh st te w hd he hp hel hpl (Lib.hid hv)
    | false => exact (Check1_wrong Ad d cd Ae en ce tr Ap pa cp ta na wh st te w hd he hp hel hpl (Lib.hid hv)).mono fun e w' h => ⟨by rw [h.1]; unfold checkB; rw [if_pos (by rfl), hv]; rfl, h.2⟩
  by_cases n2 : k = 2
  · subst n2
    cases hv : entsB geS en with
    | true => exact Check2_right Ad d cd Ae en ce tr Ap pa cp ta na wh st te w hd he hp hel hpl (Lib.hid hv)
    | false => exact (Check2_wrong Ad d cd Ae en ce tr Ap pa cp ta na wh st te w hd he hp hel hpl (Lib.hid hv)).mono fun e w' h => ⟨by rw [h.1]; unfold checkB; rw [if_neg (show ¬ (2 : Int) = 1 by decide), if_pos (by rfl), hv]; rfl, h.2⟩
  by_cases n3 : k = 3
  · subst n3
    cases hv : (decide (tr.size = 32) && parsB pa && toldB wh st te) with
    | true => exact Check3_right Ad d cd Ae en ce tr Ap pa cp ta na wh st te w hd he hp hel hpl hsz (Lib.hid hv)
    | false => exact (Check3_wrong Ad d cd Ae en ce tr Ap pa cp ta na wh st te w hd he hp hel hpl hsz (Lib.hid hv)).mono fun e w' h => ⟨by rw [h.1]; unfold checkB; rw [if_neg (show ¬ (3 : Int) = 1 by decide), if_neg (show ¬ (3 : Int) = 2 by decide), if_pos (by rfl), hv]; rfl, h.2⟩
  by_cases n4 : k = 4
  · subst n4
    cases hv : (decide (ta.size = 32) && decide (1 ≤ na.size) && decide (na.size ≤ 200) && toldB wh st te) with
    | true => exact Check4_right Ad d cd Ae en ce tr Ap pa cp ta na wh st te w hd he hp hel hpl (Lib.hid hv)
    | false => exact (Check4_wrong Ad d cd Ae en ce tr Ap pa cp ta na wh st te w hd he hp hel hpl (Lib.hid hv)).mono fun e w' h => ⟨by rw [h.1]; unfold checkB; rw [if_neg (show ¬ (4 : Int) = 1 by decide), if_neg (show ¬ (4 : Int) = 2 by decide), if_neg (show ¬ (4 : Int) = 3 by decide), if_pos (by rfl), hv]; rfl, h.2⟩
  exact (CheckN_calls k Ad d cd Ae en ce tr Ap pa cp ta na wh st te w hd he hp hel hpl n1 n2 n3 n4).mono fun e w' h => ⟨by rw [h.1]; unfold checkB; rw [if_neg n1, if_neg n2, if_neg n3, if_neg n4]; rfl, h.2⟩
end Go.Proofs.Ytcefbhmmijmefaa
