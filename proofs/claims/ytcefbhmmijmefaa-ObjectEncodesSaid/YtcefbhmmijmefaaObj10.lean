/- The walks of the layer 'object', its tenth part: an object's bytes. Conditions: lengths below 2^47. -/
import Derived.Test.YtcefbhmmijmefaaObj9
namespace Go.Proofs.Ytcefbhmmijmefaa
open Go.RowKit Go.Dol
set_option linter.unusedVariables false

theorem m_lay1 (xs : Array Value) (w : World) : (method 226 94 (.agg xs) "dolmen/object.lay").run Try.prog w = .ok (105, .agg xs) w := by kernel_rfl
theorem m_lay2 (xs : Array Value) (w : World) : (method 226 96 (.agg xs) "dolmen/object.lay").run Try.prog w = .ok (108, .agg xs) w := by kernel_rfl
theorem m_lay3 (xs : Array Value) (w : World) : (method 226 100 (.agg xs) "dolmen/object.lay").run Try.prog w = .ok (114, .agg xs) w := by kernel_rfl
theorem m_lay4 (xs : Array Value) (w : World) : (method 226 102 (.agg xs) "dolmen/object.lay").run Try.prog w = .ok (117, .agg xs) w := by kernel_rfl

/-- What Encode hands back. -/
def RetEnc (w : World) (o : Go.Dol.Obj) (e : Ending) (w' : World) : Prop :=
  Below w.heap.size w w' ∧ ((checkB geS o = true ∧ ∃ (l : List UInt8) (A : Option Addr) (c : Nat), Hid (l = encO o) ∧ e = .returned (.tuple #[.slice A l.length c, .int .i64 0]) ∧ w'.ownsRow w.heap.size 5 1 (.slice A l.length c) l.length (bc l)) ∨
    (checkB geS o = false ∧ e = .returned (.tuple #[.slice none 0 0, .int .i64 1])))
theorem flat_le {α : Type} (f : α → List UInt8) (b : Nat) : ∀ (l : List α), (∀ x ∈ l, (f x).length ≤ b) → (l.flatMap f).length ≤ l.length * b
  | [], _ => by simp
  | x :: l, h => by
    have h1 := flat_le f b l fun y hy => h y (List.mem_cons_of_mem _ hy)
    have h2 := h x (List.mem_cons_self ..)
    rw [List.flatMap_cons, List.length_append, List.length_cons, Nat.add_mul]
    omega
theorem ents_small {l : List Ent} (h : entsB geS l = true) : (l.flatMap entB).length ≤ 4299000000 := by
  have h1 := flat_le entB 1048700 l fun e he => by
    have h2 := ent_mem (entsB_parts h).1 e he
    have h3 := tx_length (s := e.name) (by omega)
    have h4 := str_len e.id
    unfold entB
    rw [List.length_append, List.length_cons, h4]
    omega
  have h2 := (entsB_parts h).2
  have h3 : l.length * 1048700 ≤ 4096 * 1048700 := Nat.mul_le_mul_right _ h2
  omega
theorem pars_small {l : List ByteArray} (h : parsB l = true) : (parsN l).length ≤ 128 := by
  have h1 := flat_le (fun p : ByteArray => p.data.toList) 32 l fun p hp => by
    have h2 := par_mem (parsB_parts h).1 p hp
    have h4 := str_len p
    omega
  have h2 := (parsB_parts h).2
  unfold parsN
  omega
/-- The parts of what a verdict says. -/
theorem check1_parts {o : Go.Dol.Obj} (hk : o.kind = 1) (h : checkB geS o = true) : o.data.length ≤ 1048576 := by
  unfold checkB at h
  rw [if_pos hk, Bool.and_eq_true] at h
  exact of_decide_eq_true h.1
theorem check2_parts {o : Go.Dol.Obj} (hk : o.kind = 2) (h : checkB geS o = true) : entsB geS o.ents = true := by
  unfold checkB at h
  rw [if_neg (by omega), if_pos hk, Bool.and_eq_true] at h
  exact h.1
theorem check3_parts {o : Go.Dol.Obj} (hk : o.kind = 3) (h : checkB geS o = true) : o.tree.size = 32 ∧ parsB o.pars = true ∧ toldB o.who o.stamp o.text = true := by
  unfold checkB at h
  rw [if_neg (by omega), if_neg (by omega), if_pos hk] at h
  simp only [Bool.and_eq_true, decide_eq_true_eq] at h
  exact ⟨h.1.1.1, h.1.1.2, h.1.2⟩
theorem check4_parts {o : Go.Dol.Obj} (hk : o.kind = 4) (h : checkB geS o = true) : o.target.size = 32 ∧ o.name.size ≤ 200 ∧ toldB o.who o.stamp o.text = true := by
  unfold checkB at h
  rw [if_neg (by omega), if_neg (by omega), if_neg (by omega), if_pos hk] at h
  simp only [Bool.and_eq_true, decide_eq_true_eq] at h
  exact ⟨h.1.1.1.1, h.1.1.2, h.1.2⟩
theorem check_kind {o : Go.Dol.Obj} (h : checkB geS o = true) : o.kind = 1 ∨ o.kind = 2 ∨ o.kind = 3 ∨ o.kind = 4 := by
  unfold checkB at h
  by_cases n1 : o.kind = 1
  · exact .inl n1
  by_cases n2 : o.kind = 2
  · exact .inr (.inl n2)
  by_cases n3 : o.kind = 3
  · exact .inr (.inr (.inl n3))
  by_cases n4 : o.kind = 4
  · exact .inr (.inr (.inr n4))
  rw [if_neg n1, if_neg n2, if_neg n3, if_neg n4] at h
  cases h
theorem lay1_all (Ad : Option Addr) (d : List UInt8) (cd : Nat) (Ae : Option Addr) (en : List Ent) (ce : Nat) (tr : ByteArray) (Ap : Option Addr) (pa : List ByteArray) (cp : Nat) (ta na wh : ByteArray) (st : Int) (te : ByteArray) (base : Nat) (A : Option Addr) (u : World) (hb : base ≤ u.heap.size) (hown : u.ownsRow base 5 1 (.slice A 1 1) 1 (bc [1])) (hd : Rd u base 1 Ad d.length (bc d)) (HC : Hid (checkB geS ⟨1, d, en, tr, pa, ta, na, wh, st, te⟩ = true)) :
    Calls Try.prog 105 #[.agg #[.slice Ad d.length cd], .slice A 1 1] u (RetO base u (encO ⟨1, d, en, tr, pa, ta, na, wh, st, te⟩)) := by
  have h1 := check1_parts rfl HC.out
  exact blobLay_calls base Ad d cd A [1] 1 u hown (hd.more hb) (by show 1 + d.length ≤ _; have h2 : d.length ≤ 1048576 := h1; omega) hb
theorem lay2_all (Ad : Option Addr) (d : List UInt8) (cd : Nat) (Ae : Option Addr) (en : List Ent) (ce : Nat) (tr : ByteArray) (Ap : Option Addr) (pa : List ByteArray) (cp : Nat) (ta na wh : ByteArray) (st : Int) (te : ByteArray) (base : Nat) (A : Option Addr) (u : World) (hb : base ≤ u.heap.size) (hown : u.ownsRow base 5 1 (.slice A 1 1) 1 (bc [2])) (he : Rd u base 3 Ae en.length (ec en)) (hel : en.length ≤ 140737488355328) (HC : Hid (checkB geS ⟨2, d, en, tr, pa, ta, na, wh, st, te⟩ = true)) :
    Calls Try.prog 108 #[.agg #[.slice Ae en.length ce], .slice A 1 1] u (RetO base u (encO ⟨2, d, en, tr, pa, ta, na, wh, st, te⟩)) := by
  have h1 := ents_small (check2_parts rfl HC.out)
  exact treeLay_calls base Ae en ce A [2] 1 u (Rd.of_own hown) he hel (by show 1 + 1000 + _ ≤ _; have h2 : (en.flatMap entB).length ≤ 4299000000 := h1; omega) hb
theorem lay3_all (Ad : Option Addr) (d : List UInt8) (cd : Nat) (Ae : Option Addr) (en : List Ent) (ce : Nat) (tr : ByteArray) (Ap : Option Addr) (pa : List ByteArray) (cp : Nat) (ta na wh : ByteArray) (st : Int) (te : ByteArray) (base : Nat) (A : Option Addr) (u : World) (hb : base ≤ u.heap.size) (hown : u.ownsRow base 5 1 (.slice A 1 1) 1 (bc [3])) (hp : Rd u base 1 Ap pa.length (pc pa)) (hpl : pa.length ≤ 140737488355328) (HC : Hid (checkB geS ⟨3, d, en, tr, pa, ta, na, wh, st, te⟩ = true)) :
    Calls Try.prog 114 #[.agg #[.string tr, .slice Ap pa.length cp, .string wh, .int .i64 st, .string te], .slice A 1 1] u (RetO base u (encO ⟨3, d, en, tr, pa, ta, na, wh, st, te⟩)) := by
  obtain ⟨h1, h2, h3⟩ := check3_parts rfl HC.out
  have h4 := pars_small h2
  have h5 := told_parts h3
  exact commitLay_calls base tr Ap pa cp wh st te A [3] 1 u hown hp hpl (by show 1 + tr.size + (parsN pa).length + 3000 + wh.size + te.size ≤ _; have h6 : tr.size = 32 := h1; have h7 : (parsN pa).length ≤ 128 := h4; have h8 : wh.size ≤ 1000 := h5.1; have h9 : te.size ≤ 1000 := h5.2.1; omega) hb
theorem lay4_all (Ad : Option Addr) (d : List UInt8) (cd : Nat) (Ae : Option Addr) (en : List Ent) (ce : Nat) (tr : ByteArray) (Ap : Option Addr) (pa : List ByteArray) (cp : Nat) (ta na wh : ByteArray) (st : Int) (te : ByteArray) (base : Nat) (A : Option Addr) (u : World) (hb : base ≤ u.heap.size) (hown : u.ownsRow base 5 1 (.slice A 1 1) 1 (bc [4])) (HC : Hid (checkB geS ⟨4, d, en, tr, pa, ta, na, wh, st, te⟩ = true)) :
    Calls Try.prog 117 #[.agg #[.string ta, .string na, .string wh, .int .i64 st, .string te], .slice A 1 1] u (RetO base u (encO ⟨4, d, en, tr, pa, ta, na, wh, st, te⟩)) := by
  obtain ⟨h1, h2, h3⟩ := check4_parts rfl HC.out
  have h5 := told_parts h3
  exact tagLay_calls base ta na wh st te A [4] 1 u hown (by show 1 + ta.size + na.size + 2000 + wh.size + te.size ≤ _; have h6 : ta.size = 32 := h1; have h7 : na.size ≤ 200 := h2; have h8 : wh.size ≤ 1000 := h5.1; have h9 : te.size ≤ 1000 := h5.2.1; omega) hb

set_option maxRecDepth 100000 in
set_option maxHeartbeats 4000000 in
theorem Encode_wrong (k : Int) (Ad : Option Addr) (d : List UInt8) (cd : Nat) (Ae : Option Addr) (en : List Ent) (ce : Nat) (tr : ByteArray) (Ap : Option Addr) (pa : List ByteArray) (cp : Nat) (ta na wh : ByteArray) (st : Int) (te : ByteArray) (w : World) (hd : Rd w w.heap.size 1 Ad d.length (bc d)) (he : Rd w w.heap.size 3 Ae en.length (ec en)) (hp : Rd w w.heap.size 1 Ap pa.length (pc pa)) (hel : en.length ≤ 140737488355328) (hpl : pa.length ≤ 140737488355328) (hsz : Hid (∀ p ∈ pa, p.size ≤ maxLen)) (HC : Hid (checkB geS ⟨k, d, en, tr, pa, ta, na, wh, st, te⟩ = false)) :
    Calls Try.prog 39 #[.agg #[.int .i64 k, .slice Ad d.length cd, .slice Ae en.length ce, .string tr, .slice Ap pa.length cp, .string ta, .string na, .string wh, .int .i64 st, .string te]] w fun e w' => e = .returned (.tuple #[.slice none 0 0, .int .i64 1]) ∧ Below w.heap.size w w' := by
  have hb0 : Below w.heap.size w (w.alloc (.cells #[.int .i64 k, .slice Ad d.length cd, .slice Ae en.length ce, .string tr, .slice Ap pa.length cp, .string ta, .string na, .string wh, .int .i64 st, .string te] 43)) := (Below.refl _ _).alloc (Nat.le_refl _) _
  have hB := Blk.new w 43 [.int .i64 k, .slice Ad d.length cd, .slice Ae en.length ce, .string tr, .slice Ap pa.length cp, .string ta, .string na, .string wh, .int .i64 st, .string te]
  obtain ⟨c0, c1, c2, c3, c4, c5, c6, c7, c8, c9⟩ := obj_cells hB
  have hd0 := hd.alive hb0
  have he0 := he.alive hb0
  have hp0 := hp.alive hb0
  have hEC : Hid (errC (checkB geS ⟨k, d, en, tr, pa, ta, na, wh, st, te⟩) = 1) := Lib.hid (by rw [HC.out]; rfl)
  go_enter Try.func39, Try.ntmps39
  go_wp2_with (go_at_call 40; (with_reducible refine (Check_calls k Ad d cd Ae en ce tr Ap pa cp ta na wh st te _ hd0 he0 hp0 hel hpl hsz).mono ?_); rintro e w1 ⟨rfl, hb1⟩; rw [hEC.out])
  go_ret2
  exact ⟨rfl, hb0.next hb1⟩

set_option maxRecDepth 100000 in
set_option maxHeartbeats 4000000 in
theorem Encode1_calls (Ad : Option Addr) (d : List UInt8) (cd : Nat) (Ae : Option Addr) (en : List Ent) (ce : Nat) (tr : ByteArray) (Ap : Option Addr) (pa : List ByteArray) (cp : Nat) (ta na wh : ByteArray) (st : Int) (te : ByteArray) (w : World) (hd : Rd w w.heap.size 1 Ad d.length (bc d)) (he : Rd w w.heap.size 3 Ae en.length (ec en)) (hp : Rd w w.heap.size 1 Ap pa.length (pc pa)) (hel : en.length ≤ 140737488355328) (hpl : pa.length ≤ 140737488355328) (hsz : Hid (∀ p ∈ pa, p.size ≤ maxLen)) (HC : Hid (checkB geS ⟨1, d, en, tr, pa, ta, na, wh, st, te⟩ = true)) :
    Calls Try.prog 39 #[.agg #[.int .i64 1, .slice Ad d.length cd, .slice Ae en.length ce, .string tr, .slice Ap pa.length cp, .string ta, .string na, .string wh, .int .i64 st, .string te]] w (RetEnc w ⟨1, d, en, tr, pa, ta, na, wh, st, te⟩) := by
  have h3 := m_lay1
  have hb0 : Below w.heap.size w (w.alloc (.cells #[.int .i64 1, .slice Ad d.length cd, .slice Ae en.length ce, .string tr, .slice Ap pa.length cp, .string ta, .string na, .string wh, .int .i64 st, .string te] 43)) := (Below.refl _ _).alloc (Nat.le_refl _) _
  have hB := Blk.new w 43 [.int .i64 1, .slice Ad d.length cd, .slice Ae en.length ce, .string tr, .slice Ap pa.length cp, .string ta, .string na, .string wh, .int .i64 st, .string te]
  obtain ⟨c0, c1, c2, c3, c4, c5, c6, c7, c8, c9⟩ := obj_cells hB
  have hd0 := hd.alive hb0
  have he0 := he.alive hb0
  have hp0 := hp.alive hb0
  have hEC : Hid (errC (checkB geS ⟨1, d, en, tr, pa, ta, na, wh, st, te⟩) = 0) := Lib.hid (by rw [HC.out]; rfl)
  go_enter Try.func39, Try.ntmps39
  go_wp2_with (go_at_call 40; (with_reducible refine (Check_calls 1 Ad d cd Ae en ce tr Ap pa cp ta na wh st te _ hd0 he0 hp0 hel hpl hsz).mono ?_); rintro e w1 ⟨rfl, hb1⟩; rw [hEC.out])
  have hB1 := hB.below hb1 hB.lt
  have hbw := hb0.next hb1
  have hBd := hB1.drew
  have hbd : Below w.heap.size w w1.drew := hbw.drew
  have hd2 := hd.alive hbd
  have he2 := he.alive hbd
  have hp2 := hp.alive hbd
  have hlt := hBd.lt
  have hwr : IntKind.u8.wrap 1 = 1 := by rfl
  have hAl : Below w1.drew.heap.size w1.drew (w1.drew.alloc (.cells #[.int .u8 1] 5)) := (Below.refl _ _).alloc (Nat.le_refl _) _
  go_region_held3 (fun w' => w'.cell? ⟨w.heap.size, 0, none⟩ = some (.int .i64 1) ∧ w'.cell? ⟨w.heap.size, 1, none⟩ = some (.slice Ad d.length cd) ∧ w'.cell? ⟨w.heap.size, 2, none⟩ = some (.slice Ae en.length ce) ∧ w'.cell? ⟨w.heap.size, 3, none⟩ = some (.string tr) ∧ w'.cell? ⟨w.heap.size, 4, none⟩ = some (.slice Ap pa.length cp) ∧ w'.cell? ⟨w.heap.size, 5, none⟩ = some (.string ta) ∧ w'.cell? ⟨w.heap.size, 6, none⟩ = some (.string na) ∧ w'.cell? ⟨w.heap.size, 7, none⟩ = some (.string wh) ∧ w'.cell? ⟨w.heap.size, 8, none⟩ = some (.int .i64 st) ∧ w'.cell? ⟨w.heap.size, 9, none⟩ = some (.string te)) (first | exact obj_cells hBd | exact obj_cells hB3 | exact obj_cells hB4 | exact obj_cells (hBd.alloc _) | exact obj_cells (hB3.alloc _) | go_keep) ((first
    | (go_at_call 65; (with_reducible refine (of1_calls Ad d.length cd Ae en.length ce tr Ap pa.length cp ta na wh st te _).mono ?_); rintro e w3 ⟨rfl, hb3⟩;
        have hx3 : Below w1.drew.heap.size w1.drew w3 := (by first | exact hb3 | exact hAl.next hb3);
        have hB3 : Blk w3 w.heap.size 43 [.int .i64 1, .slice Ad d.length cd, .slice Ae en.length ce, .string tr, .slice Ap pa.length cp, .string ta, .string na, .string wh, .int .i64 st, .string te] := hBd.below hx3 hlt)
    | (go_at_call 105; have hu : Below w1.drew.heap.size w1.drew (w3.alloc (.cells #[.int .u8 1] 5)) := hx3.alloc hx3.size _;
        have ho : (w3.alloc (.cells #[.int .u8 1] 5)).ownsRow w1.drew.heap.size 5 1 (.slice (some ⟨w3.heap.size, 0, none⟩) 1 1) 1 (bc [1]) := World.ownsRow_lit w3 #[.int .u8 1] 1 hx3.size (by decide) rfl;
        (with_reducible refine (lay1_all Ad d cd Ae en ce tr Ap pa cp ta na wh st te w1.drew.heap.size _ _ hu.size ho (hd2.below hu) HC).mono ?_); rintro e w4 ⟨l, A, c, el, rfl, hol, hb4, i1, i2⟩;
        have hx4 : Below w1.drew.heap.size w1.drew w4 := hu.trans hb4; have hB4 : Blk w4 w.heap.size 43 [.int .i64 1, .slice Ad d.length cd, .slice Ae en.length ce, .string tr, .slice Ap pa.length cp, .string ta, .string na, .string wh, .int .i64 st, .string te] := hBd.below hx4 hlt)
    | (go_at_call 105;
        have ho : w3.ownsRow w1.drew.heap.size 5 1 (.slice (some ⟨w1.heap.size, 0, none⟩) 1 1) 1 (bc [1]) := own_belowW (World.ownsRow_lit w1.drew #[.int .u8 1] 1 (Nat.le_refl _) (by decide) rfl) hb3;
        (with_reducible refine (lay1_all Ad d cd Ae en ce tr Ap pa cp ta na wh st te w1.drew.heap.size _ _ hx3.size ho (hd2.below hx3) HC).mono ?_); rintro e w4 ⟨l, A, c, el, rfl, hol, hb4, i1, i2⟩;
        have hx4 : Below w1.drew.heap.size w1.drew w4 := hx3.trans hb4; have hB4 : Blk w4 w.heap.size 43 [.int .i64 1, .slice Ad d.length cd, .slice Ae en.length ce, .string tr, .slice Ap pa.length cp, .string ta, .string na, .string wh, .int .i64 st, .string te] := hBd.below hx4 hlt)))
  all_goals have hbe : Below w.heap.size w w4 := hbd.trans (hx4.mono hbd.size)
  all_goals go_wp2_with fail
  all_goals go_ret2
  all_goals exact ⟨hbe, .inl ⟨HC.out, l, A, c, el, rfl, hol.base hbd.size⟩⟩

set_option maxRecDepth 100000 in
set_option maxHeartbeats 4000000 in
theorem Encode2_calls (Ad : Option Addr) (d : List UInt8) (cd : Nat) (Ae : Option Addr) (en : List Ent) (ce : Nat) (tr : ByteArray) (Ap : Option Addr) (pa : List ByteArray) (cp : Nat) (ta na wh : ByteArray) (st : Int) (te : ByteArray) (w : World) (hd : Rd w w.heap.size 1 Ad d.length (bc d)) (he : Rd w w.heap.size 3 Ae en.length (ec en)) (hp : Rd w w.heap.size 1 Ap pa.length (pc pa)) (hel : en.length ≤ 140737488355328) (hpl : pa.length ≤ 140737488355328) (hsz : Hid (∀ p ∈ pa, p.size ≤ maxLen)) (HC : Hid (checkB geS ⟨2, d, en, tr, pa, ta, na, wh, st, te⟩ = true)) :
    Calls Try.prog 39 #[.agg #[.int .i64 2, .slice Ad d.length cd, .slice Ae en.length ce, .string tr, .slice Ap pa.length cp, .string ta, .string na, .string wh, .int .i64 st, .string te]] w (RetEnc w ⟨2, d, en, tr, pa, ta, na, wh, st, te⟩) := by
  have h3 := m_lay2
  have hb0 : Below w.heap.size w (w.alloc (.cells #[.int .i64 2, .slice Ad d.length cd, .slice Ae en.length ce, .string tr, .slice Ap pa.length cp, .string ta, .string na, .string wh, .int .i64 st, .string te] 43)) := (Below.refl _ _).alloc (Nat.le_refl _) _
  have hB := Blk.new w 43 [.int .i64 2, .slice Ad d.length cd, .slice Ae en.length ce, .string tr, .slice Ap pa.length cp, .string ta, .string na, .string wh, .int .i64 st, .string te]
  obtain ⟨c0, c1, c2, c3, c4, c5, c6, c7, c8, c9⟩ := obj_cells hB
  have hd0 := hd.alive hb0
  have he0 := he.alive hb0
  have hp0 := hp.alive hb0
  have hEC : Hid (errC (checkB geS ⟨2, d, en, tr, pa, ta, na, wh, st, te⟩) = 0) := Lib.hid (by rw [HC.out]; rfl)
  go_enter Try.func39, Try.ntmps39
  go_wp2_with (go_at_call 40; (with_reducible refine (Check_calls 2 Ad d cd Ae en ce tr Ap pa cp ta na wh st te _ hd0 he0 hp0 hel hpl hsz).mono ?_); rintro e w1 ⟨rfl, hb1⟩; rw [hEC.out])
  have hB1 := hB.below hb1 hB.lt
  have hbw := hb0.next hb1
  have hBd := hB1.drew
  have hbd : Below w.heap.size w w1.drew := hbw.drew
  have hd2 := hd.alive hbd
  have he2 := he.alive hbd
  have hp2 := hp.alive hbd
  have hlt := hBd.lt
  have hwr : IntKind.u8.wrap 2 = 2 := by rfl
  have hAl : Below w1.drew.heap.size w1.drew (w1.drew.alloc (.cells #[.int .u8 2] 5)) := (Below.refl _ _).alloc (Nat.le_refl _) _
  go_region_held3 (fun w' => w'.cell? ⟨w.heap.size, 0, none⟩ = some (.int .i64 2) ∧ w'.cell? ⟨w.heap.size, 1, none⟩ = some (.slice Ad d.length cd) ∧ w'.cell? ⟨w.heap.size, 2, none⟩ = some (.slice Ae en.length ce) ∧ w'.cell? ⟨w.heap.size, 3, none⟩ = some (.string tr) ∧ w'.cell? ⟨w.heap.size, 4, none⟩ = some (.slice Ap pa.length cp) ∧ w'.cell? ⟨w.heap.size, 5, none⟩ = some (.string ta) ∧ w'.cell? ⟨w.heap.size, 6, none⟩ = some (.string na) ∧ w'.cell? ⟨w.heap.size, 7, none⟩ = some (.string wh) ∧ w'.cell? ⟨w.heap.size, 8, none⟩ = some (.int .i64 st) ∧ w'.cell? ⟨w.heap.size, 9, none⟩ = some (.string te)) (first | exact obj_cells hBd | exact obj_cells hB3 | exact obj_cells hB4 | exact obj_cells (hBd.alloc _) | exact obj_cells (hB3.alloc _) | go_keep) ((first
    | (go_at_call 65; (with_reducible refine (of2_calls Ad d.length cd Ae en.length ce tr Ap pa.length cp ta na wh st te _).mono ?_); rintro e w3 ⟨rfl, hb3⟩;
        have hx3 : Below w1.drew.heap.size w1.drew w3 := (by first | exact hb3 | exact hAl.next hb3);
        have hB3 : Blk w3 w.heap.size 43 [.int .i64 2, .slice Ad d.length cd, .slice Ae en.length ce, .string tr, .slice Ap pa.length cp, .string ta, .string na, .string wh, .int .i64 st, .string te] := hBd.below hx3 hlt)
    | (go_at_call 108; have hu : Below w1.drew.heap.size w1.drew (w3.alloc (.cells #[.int .u8 2] 5)) := hx3.alloc hx3.size _;
        have ho : (w3.alloc (.cells #[.int .u8 2] 5)).ownsRow w1.drew.heap.size 5 1 (.slice (some ⟨w3.heap.size, 0, none⟩) 1 1) 1 (bc [2]) := World.ownsRow_lit w3 #[.int .u8 2] 1 hx3.size (by decide) rfl;
        (with_reducible refine (lay2_all Ad d cd Ae en ce tr Ap pa cp ta na wh st te w1.drew.heap.size _ _ hu.size ho (he2.below hu) hel HC).mono ?_); rintro e w4 ⟨l, A, c, el, rfl, hol, hb4, i1, i2⟩;
        have hx4 : Below w1.drew.heap.size w1.drew w4 := hu.trans hb4; have hB4 : Blk w4 w.heap.size 43 [.int .i64 2, .slice Ad d.length cd, .slice Ae en.length ce, .string tr, .slice Ap pa.length cp, .string ta, .string na, .string wh, .int .i64 st, .string te] := hBd.below hx4 hlt)
    | (go_at_call 108;
        have ho : w3.ownsRow w1.drew.heap.size 5 1 (.slice (some ⟨w1.heap.size, 0, none⟩) 1 1) 1 (bc [2]) := own_belowW (World.ownsRow_lit w1.drew #[.int .u8 2] 1 (Nat.le_refl _) (by decide) rfl) hb3;
        (with_reducible refine (lay2_all Ad d cd Ae en ce tr Ap pa cp ta na wh st te w1.drew.heap.size _ _ hx3.size ho (he2.below hx3) hel HC).mono ?_); rintro e w4 ⟨l, A, c, el, rfl, hol, hb4, i1, i2⟩;
        have hx4 : Below w1.drew.heap.size w1.drew w4 := hx3.trans hb4; have hB4 : Blk w4 w.heap.size 43 [.int .i64 2, .slice Ad d.length cd, .slice Ae en.length ce, .string tr, .slice Ap pa.length cp, .string ta, .string na, .string wh, .int .i64 st, .string te] := hBd.below hx4 hlt)))
  all_goals have hbe : Below w.heap.size w w4 := hbd.trans (hx4.mono hbd.size)
  all_goals go_wp2_with fail
  all_goals go_ret2
  all_goals exact ⟨hbe, .inl ⟨HC.out, l, A, c, el, rfl, hol.base hbd.size⟩⟩

set_option maxRecDepth 100000 in
set_option maxHeartbeats 4000000 in
theorem Encode3_calls (Ad : Option Addr) (d : List UInt8) (cd : Nat) (Ae : Option Addr) (en : List Ent) (ce : Nat) (tr : ByteArray) (Ap : Option Addr) (pa : List ByteArray) (cp : Nat) (ta na wh : ByteArray) (st : Int) (te : ByteArray) (w : World) (hd : Rd w w.heap.size 1 Ad d.length (bc d)) (he : Rd w w.heap.size 3 Ae en.length (ec en)) (hp : Rd w w.heap.size 1 Ap pa.length (pc pa)) (hel : en.length ≤ 140737488355328) (hpl : pa.length ≤ 140737488355328) (hsz : Hid (∀ p ∈ pa, p.size ≤ maxLen)) (HC : Hid (checkB geS ⟨3, d, en, tr, pa, ta, na, wh, st, te⟩ = true)) :
    Calls Try.prog 39 #[.agg #[.int .i64 3, .slice Ad d.length cd, .slice Ae en.length ce, .string tr, .slice Ap pa.length cp, .string ta, .string na, .string wh, .int .i64 st, .string te]] w (RetEnc w ⟨3, d, en, tr, pa, ta, na, wh, st, te⟩) := by
  have h3 := m_lay3
  have hb0 : Below w.heap.size w (w.alloc (.cells #[.int .i64 3, .slice Ad d.length cd, .slice Ae en.length ce, .string tr, .slice Ap pa.length cp, .string ta, .string na, .string wh, .int .i64 st, .string te] 43)) := (Below.refl _ _).alloc (Nat.le_refl _) _
  have hB := Blk.new w 43 [.int .i64 3, .slice Ad d.length cd, .slice Ae en.length ce, .string tr, .slice Ap pa.length cp, .string ta, .string na, .string wh, .int .i64 st, .string te]
  obtain ⟨c0, c1, c2, c3, c4, c5, c6, c7, c8, c9⟩ := obj_cells hB
  have hd0 := hd.alive hb0
  have he0 := he.alive hb0
  have hp0 := hp.alive hb0
  have hEC : Hid (errC (checkB geS ⟨3, d, en, tr, pa, ta, na, wh, st, te⟩) = 0) := Lib.hid (by rw [HC.out]; rfl)
  go_enter Try.func39, Try.ntmps39
  go_wp2_with (go_at_call 40; (with_reducible refine (Check_calls 3 Ad d cd Ae en ce tr Ap pa cp ta na wh st te _ hd0 he0 hp0 hel hpl hsz).mono ?_); rintro e w1 ⟨rfl, hb1⟩; rw [hEC.out])
  have hB1 := hB.below hb1 hB.lt
  have hbw := hb0.next hb1
  have hBd := hB1.drew
  have hbd : Below w.heap.size w w1.drew := hbw.drew
  have hd2 := hd.alive hbd
  have he2 := he.alive hbd
  have hp2 := hp.alive hbd
  have hlt := hBd.lt
  have hwr : IntKind.u8.wrap 3 = 3 := by rfl
  have hAl : Below w1.drew.heap.size w1.drew (w1.drew.alloc (.cells #[.int .u8 3] 5)) := (Below.refl _ _).alloc (Nat.le_refl _) _
  go_region_held3 (fun w' => w'.cell? ⟨w.heap.size, 0, none⟩ = some (.int .i64 3) ∧ w'.cell? ⟨w.heap.size, 1, none⟩ = some (.slice Ad d.length cd) ∧ w'.cell? ⟨w.heap.size, 2, none⟩ = some (.slice Ae en.length ce) ∧ w'.cell? ⟨w.heap.size, 3, none⟩ = some (.string tr) ∧ w'.cell? ⟨w.heap.size, 4, none⟩ = some (.slice Ap pa.length cp) ∧ w'.cell? ⟨w.heap.size, 5, none⟩ = some (.string ta) ∧ w'.cell? ⟨w.heap.size, 6, none⟩ = some (.string na) ∧ w'.cell? ⟨w.heap.size, 7, none⟩ = some (.string wh) ∧ w'.cell? ⟨w.heap.size, 8, none⟩ = some (.int .i64 st) ∧ w'.cell? ⟨w.heap.size, 9, none⟩ = some (.string te)) (first | exact obj_cells hBd | exact obj_cells hB3 | exact obj_cells hB4 | exact obj_cells (hBd.alloc _) | exact obj_cells (hB3.alloc _) | go_keep) ((first
    | (go_at_call 65; (with_reducible refine (of3_calls Ad d.length cd Ae en.length ce tr Ap pa.length cp ta na wh st te _).mono ?_); rintro e w3 ⟨rfl, hb3⟩;
        have hx3 : Below w1.drew.heap.size w1.drew w3 := (by first | exact hb3 | exact hAl.next hb3);
        have hB3 : Blk w3 w.heap.size 43 [.int .i64 3, .slice Ad d.length cd, .slice Ae en.length ce, .string tr, .slice Ap pa.length cp, .string ta, .string na, .string wh, .int .i64 st, .string te] := hBd.below hx3 hlt)
    | (go_at_call 114; have hu : Below w1.drew.heap.size w1.drew (w3.alloc (.cells #[.int .u8 3] 5)) := hx3.alloc hx3.size _;
        have ho : (w3.alloc (.cells #[.int .u8 3] 5)).ownsRow w1.drew.heap.size 5 1 (.slice (some ⟨w3.heap.size, 0, none⟩) 1 1) 1 (bc [3]) := World.ownsRow_lit w3 #[.int .u8 3] 1 hx3.size (by decide) rfl;
        (with_reducible refine (lay3_all Ad d cd Ae en ce tr Ap pa cp ta na wh st te w1.drew.heap.size _ _ hu.size ho (hp2.below hu) hpl HC).mono ?_); rintro e w4 ⟨l, A, c, el, rfl, hol, hb4, i1, i2⟩;
        have hx4 : Below w1.drew.heap.size w1.drew w4 := hu.trans hb4; have hB4 : Blk w4 w.heap.size 43 [.int .i64 3, .slice Ad d.length cd, .slice Ae en.length ce, .string tr, .slice Ap pa.length cp, .string ta, .string na, .string wh, .int .i64 st, .string te] := hBd.below hx4 hlt)
    | (go_at_call 114;
        have ho : w3.ownsRow w1.drew.heap.size 5 1 (.slice (some ⟨w1.heap.size, 0, none⟩) 1 1) 1 (bc [3]) := own_belowW (World.ownsRow_lit w1.drew #[.int .u8 3] 1 (Nat.le_refl _) (by decide) rfl) hb3;
        (with_reducible refine (lay3_all Ad d cd Ae en ce tr Ap pa cp ta na wh st te w1.drew.heap.size _ _ hx3.size ho (hp2.below hx3) hpl HC).mono ?_); rintro e w4 ⟨l, A, c, el, rfl, hol, hb4, i1, i2⟩;
        have hx4 : Below w1.drew.heap.size w1.drew w4 := hx3.trans hb4; have hB4 : Blk w4 w.heap.size 43 [.int .i64 3, .slice Ad d.length cd, .slice Ae en.length ce, .string tr, .slice Ap pa.length cp, .string ta, .string na, .string wh, .int .i64 st, .string te] := hBd.below hx4 hlt)))
  all_goals have hbe : Below w.heap.size w w4 := hbd.trans (hx4.mono hbd.size)
  all_goals go_wp2_with fail
  all_goals go_ret2
  all_goals exact ⟨hbe, .inl ⟨HC.out, l, A, c, el, rfl, hol.base hbd.size⟩⟩

set_option maxRecDepth 100000 in
set_option maxHeartbeats 4000000 in
theorem Encode4_calls (Ad : Option Addr) (d : List UInt8) (cd : Nat) (Ae : Option Addr) (en : List Ent) (ce : Nat) (tr : ByteArray) (Ap : Option Addr) (pa : List ByteArray) (cp : Nat) (ta na wh : ByteArray) (st : Int) (te : ByteArray) (w : World) (hd : Rd w w.heap.size 1 Ad d.length (bc d)) (he : Rd w w.heap.size 3 Ae en.length (ec en)) (hp : Rd w w.heap.size 1 Ap pa.length (pc pa)) (hel : en.length ≤ 140737488355328) (hpl : pa.length ≤ 140737488355328) (hsz : Hid (∀ p ∈ pa, p.size ≤ maxLen)) (HC : Hid (checkB geS ⟨4, d, en, tr, pa, ta, na, wh, st, te⟩ = true)) :
    Calls Try.prog 39 #[.agg #[.int .i64 4, .slice Ad d.length cd, .slice Ae en.length ce, .string tr, .slice Ap pa.length cp, .string ta, .string na, .string wh, .int .i64 st, .string te]] w (RetEnc w ⟨4, d, en, tr, pa, ta, na, wh, st, te⟩) := by
  have h3 := m_lay4
  have hb0 : Below w.heap.size w (w.alloc (.cells #[.int .i64 4, .slice Ad d.length cd, .slice Ae en.length ce, .string tr, .slice Ap pa.length cp, .string ta, .string na, .string wh, .int .i64 st, .string te] 43)) := (Below.refl _ _).alloc (Nat.le_refl _) _
  have hB := Blk.new w 43 [.int .i64 4, .slice Ad d.length cd, .slice Ae en.length ce, .string tr, .slice Ap pa.length cp, .string ta, .string na, .string wh, .int .i64 st, .string te]
  obtain ⟨c0, c1, c2, c3, c4, c5, c6, c7, c8, c9⟩ := obj_cells hB
  have hd0 := hd.alive hb0
  have he0 := he.alive hb0
  have hp0 := hp.alive hb0
  have hEC : Hid (errC (checkB geS ⟨4, d, en, tr, pa, ta, na, wh, st, te⟩) = 0) := Lib.hid (by rw [HC.out]; rfl)
  go_enter Try.func39, Try.ntmps39
  go_wp2_with (go_at_call 40; (with_reducible refine (Check_calls 4 Ad d cd Ae en ce tr Ap pa cp ta na wh st te _ hd0 he0 hp0 hel hpl hsz).mono ?_); rintro e w1 ⟨rfl, hb1⟩; rw [hEC.out])
  have hB1 := hB.below hb1 hB.lt
  have hbw := hb0.next hb1
  have hBd := hB1.drew
  have hbd : Below w.heap.size w w1.drew := hbw.drew
  have hd2 := hd.alive hbd
  have he2 := he.alive hbd
  have hp2 := hp.alive hbd
  have hlt := hBd.lt
  have hwr : IntKind.u8.wrap 4 = 4 := by rfl
  have hAl : Below w1.drew.heap.size w1.drew (w1.drew.alloc (.cells #[.int .u8 4] 5)) := (Below.refl _ _).alloc (Nat.le_refl _) _
  go_region_held3 (fun w' => w'.cell? ⟨w.heap.size, 0, none⟩ = some (.int .i64 4) ∧ w'.cell? ⟨w.heap.size, 1, none⟩ = some (.slice Ad d.length cd) ∧ w'.cell? ⟨w.heap.size, 2, none⟩ = some (.slice Ae en.length ce) ∧ w'.cell? ⟨w.heap.size, 3, none⟩ = some (.string tr) ∧ w'.cell? ⟨w.heap.size, 4, none⟩ = some (.slice Ap pa.length cp) ∧ w'.cell? ⟨w.heap.size, 5, none⟩ = some (.string ta) ∧ w'.cell? ⟨w.heap.size, 6, none⟩ = some (.string na) ∧ w'.cell? ⟨w.heap.size, 7, none⟩ = some (.string wh) ∧ w'.cell? ⟨w.heap.size, 8, none⟩ = some (.int .i64 st) ∧ w'.cell? ⟨w.heap.size, 9, none⟩ = some (.string te)) (first | exact obj_cells hBd | exact obj_cells hB3 | exact obj_cells hB4 | exact obj_cells (hBd.alloc _) | exact obj_cells (hB3.alloc _) | go_keep) ((first
    | (go_at_call 65; (with_reducible refine (of4_calls Ad d.length cd Ae en.length ce tr Ap pa.length cp ta na wh st te _).mono ?_); rintro e w3 ⟨rfl, hb3⟩;
        have hx3 : Below w1.drew.heap.size w1.drew w3 := (by first | exact hb3 | exact hAl.next hb3);
        have hB3 : Blk w3 w.heap.size 43 [.int .i64 4, .slice Ad d.length cd, .slice Ae en.length ce, .string tr, .slice Ap pa.length cp, .string ta, .string na, .string wh, .int .i64 st, .string te] := hBd.below hx3 hlt)
    | (go_at_call 117; have hu : Below w1.drew.heap.size w1.drew (w3.alloc (.cells #[.int .u8 4] 5)) := hx3.alloc hx3.size _;
        have ho : (w3.alloc (.cells #[.int .u8 4] 5)).ownsRow w1.drew.heap.size 5 1 (.slice (some ⟨w3.heap.size, 0, none⟩) 1 1) 1 (bc [4]) := World.ownsRow_lit w3 #[.int .u8 4] 1 hx3.size (by decide) rfl;
        (with_reducible refine (lay4_all Ad d cd Ae en ce tr Ap pa cp ta na wh st te w1.drew.heap.size _ _ hu.size ho HC).mono ?_); rintro e w4 ⟨l, A, c, el, rfl, hol, hb4, i1, i2⟩;
        have hx4 : Below w1.drew.heap.size w1.drew w4 := hu.trans hb4; have hB4 : Blk w4 w.heap.size 43 [.int .i64 4, .slice Ad d.length cd, .slice Ae en.length ce, .string tr, .slice Ap pa.length cp, .string ta, .string na, .string wh, .int .i64 st, .string te] := hBd.below hx4 hlt)
    | (go_at_call 117;
        have ho : w3.ownsRow w1.drew.heap.size 5 1 (.slice (some ⟨w1.heap.size, 0, none⟩) 1 1) 1 (bc [4]) := own_belowW (World.ownsRow_lit w1.drew #[.int .u8 4] 1 (Nat.le_refl _) (by decide) rfl) hb3;
        (with_reducible refine (lay4_all Ad d cd Ae en ce tr Ap pa cp ta na wh st te w1.drew.heap.size _ _ hx3.size ho HC).mono ?_); rintro e w4 ⟨l, A, c, el, rfl, hol, hb4, i1, i2⟩;
        have hx4 : Below w1.drew.heap.size w1.drew w4 := hx3.trans hb4; have hB4 : Blk w4 w.heap.size 43 [.int .i64 4, .slice Ad d.length cd, .slice Ae en.length ce, .string tr, .slice Ap pa.length cp, .string ta, .string na, .string wh, .int .i64 st, .string te] := hBd.below hx4 hlt)))
  all_goals have hbe : Below w.heap.size w w4 := hbd.trans (hx4.mono hbd.size)
  all_goals go_wp2_with fail
  all_goals go_ret2
  all_goals exact ⟨hbe, .inl ⟨HC.out, l, A, c, el, rfl, hol.base hbd.size⟩⟩

theorem Encode_calls (k : Int) (Ad : Option Addr) (d : List UInt8) (cd : Nat) (Ae : Option Addr) (en : List Ent) (ce : Nat) (tr : ByteArray) (Ap : Option Addr) (pa : List ByteArray) (cp : Nat) (ta na wh : ByteArray) (st : Int) (te : ByteArray) (w : World) (hd : Rd w w.heap.size 1 Ad d.length (bc d)) (he : Rd w w.heap.size 3 Ae en.length (ec en)) (hp : Rd w w.heap.size 1 Ap pa.length (pc pa)) (hel : en.length ≤ 140737488355328) (hpl : pa.length ≤ 140737488355328) (hsz : Hid (∀ p ∈ pa, p.size ≤ maxLen)) :
    Calls Try.prog 39 #[.agg #[.int .i64 k, .slice Ad d.length cd, .slice Ae en.length ce, .string tr, .slice Ap pa.length cp, .string ta, .string na, .string wh, .int .i64 st, .string te]] w (RetEnc w ⟨k, d, en, tr, pa, ta, na, wh, st, te⟩) := by
  cases hc : checkB geS ⟨k, d, en, tr, pa, ta, na, wh, st, te⟩ with
  | false => exact (Encode_wrong k Ad d cd Ae en ce tr Ap pa cp ta na wh st te w hd he hp hel hpl hsz (Lib.hid hc)).mono fun e w' h => ⟨h.2, .inr ⟨hc, h.1⟩⟩
  | true =>
    obtain n1 | n1 | n1 | n1 := check_kind hc
    · have n2 : k = 1 := n1
      subst n2
      exact Encode1_calls Ad d cd Ae en ce tr Ap pa cp ta na wh st te w hd he hp hel hpl hsz (Lib.hid hc)
    · have n2 : k = 2 := n1
      subst n2
      exact Encode2_calls Ad d cd Ae en ce tr Ap pa cp ta na wh st te w hd he hp hel hpl hsz (Lib.hid hc)
    · have n2 : k = 3 := n1
      subst n2
      exact Encode3_calls Ad d cd Ae en ce tr Ap pa cp ta na wh st te w hd he hp hel hpl hsz (Lib.hid hc)
    · have n2 : k = 4 := n1
      subst n2
      exact Encode4_calls Ad d cd Ae en ce tr Ap pa cp ta na wh st te w hd he hp hel hpl hsz (Lib.hid hc)
/-- The bytes of an object that may be are few. -/
theorem told_small {o : Go.Dol.Obj} (h : toldB o.who o.stamp o.text = true) : (toldL o).length ≤ 3000 := by
  obtain ⟨h1, h2, h3, h4⟩ := told_parts h
  have e1 := tx_length (s := o.who) (by omega)
  have e2 := tx_length (s := o.text) (by omega)
  have e3 := num_length_le 8 (clampN o.stamp) (by have := clampN_le o.stamp; unfold mostNum at this; omega)
  unfold toldL
  simp only [List.length_append]
  omega
theorem enc_small {o : Go.Dol.Obj} (h : checkB geS o = true) : (encO o).length ≤ 5000000000 := by
  unfold encO
  rw [List.length_cons]
  rcases check_kind h with e | e | e | e
  · rw [if_pos e]
    have := check1_parts e h
    omega
  · rw [if_neg (by omega), if_pos e]
    have h1 := ents_small (check2_parts e h)
    have h2 := (entsB_parts (check2_parts e h)).2
    have h3 := num_length_le 8 o.ents.length (by omega)
    unfold entsL
    rw [List.length_append]
    omega
  · rw [if_neg (by omega), if_neg (by omega), if_pos e]
    obtain ⟨h1, h2, h3⟩ := check3_parts e h
    have h4 := pars_small h2
    have h5 := (parsB_parts h2).2
    have h6 := num_length_le 8 o.pars.length (by omega)
    have h7 := told_small h3
    have h8 := str_len o.tree
    unfold parsN at h4
    unfold parsL
    simp only [List.length_append]
    omega
  · rw [if_neg (by omega), if_neg (by omega), if_neg (by omega)]
    obtain ⟨h1, h2, h3⟩ := check4_parts e h
    have h7 := told_small h3
    have h8 := str_len o.target
    have h9 := tx_length (s := o.name) (by omega)
    simp only [List.length_append]
    omega
end Go.Proofs.Ytcefbhmmijmefaa
