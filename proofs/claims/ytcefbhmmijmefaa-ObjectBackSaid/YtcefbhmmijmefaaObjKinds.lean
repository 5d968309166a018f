/- The law ObjectKinds: the first byte of an object's bytes is its kind; a blob's others are its content. Conditions: lengths below 2^47. -/
import Derived.Test.YtcefbhmmijmefaaObjAwake
import Derived.BigQuiet
namespace Go.Proofs.Ytcefbhmmijmefaa
open Go.RowKit Go.Dol
set_option linter.unusedVariables false

theorem index_zero (g off n c : Nat) (w' : World) (hn1 : 0 < n) : (Instr.indexAt 22 (.slice (some ⟨g, off, none⟩) n c) (.int .i64 0)).run Try.prog w' = .ok (.pointer (some ⟨g, off, none⟩)) w' := by
  have hn0 : (0 : Int) < (n : Int) := by omega
  go_simp
/-- What Encode hands back of an object that may be. -/
def RetGood (w : World) (o : Go.Dol.Obj) (e : Ending) (w' : World) : Prop :=
  ∃ (l : List UInt8) (A : Option Addr) (c : Nat), Hid (l = encO o) ∧ e = .returned (.tuple #[.slice A l.length c, .int .i64 0]) ∧ w'.ownsRow w.heap.size 5 1 (.slice A l.length c) l.length (bc l) ∧ Below w.heap.size w w'
theorem RetGood.of {w : World} {o : Go.Dol.Obj} {e : Ending} {w' : World} (hc : checkB geS o = true) (h : RetEnc w o e w') : RetGood w o e w' := by
  obtain ⟨hb, ⟨_, l, A, c, el, he, ho⟩ | ⟨hf, _⟩⟩ := h
  · exact ⟨l, A, c, el, he, ho, hb⟩
  · rw [hc] at hf
    cases hf

set_option maxRecDepth 100000 in
set_option maxHeartbeats 4000000 in
theorem kinds_wrong (k : Int) (Ad : Option Addr) (d : List UInt8) (cd : Nat) (Ae : Option Addr) (en : List Ent) (ce : Nat) (tr : ByteArray) (Ap : Option Addr) (pa : List ByteArray) (cp : Nat) (ta na wh : ByteArray) (st : Int) (te : ByteArray) (w : World) (hd : Rd w w.heap.size 1 Ad d.length (bc d)) (he : Rd w w.heap.size 3 Ae en.length (ec en)) (hp : Rd w w.heap.size 1 Ap pa.length (pc pa)) (hel : en.length ≤ 140737488355328) (hpl : pa.length ≤ 140737488355328) (hsz : Hid (∀ p ∈ pa, p.size ≤ maxLen)) (HC : Hid (checkB geS ⟨k, d, en, tr, pa, ta, na, wh, st, te⟩ = false)) :
    Calls Try.prog 9 #[.agg #[.int .i64 k, .slice Ad d.length cd, .slice Ae en.length ce, .string tr, .slice Ap pa.length cp, .string ta, .string na, .string wh, .int .i64 st, .string te]] w fun e w' => e = .returned (.bool true) ∧ Below w.heap.size w w' := by
  have hb0 : Below w.heap.size w (w.alloc (.cells #[.int .i64 k, .slice Ad d.length cd, .slice Ae en.length ce, .string tr, .slice Ap pa.length cp, .string ta, .string na, .string wh, .int .i64 st, .string te] 43)) := (Below.refl _ _).alloc (Nat.le_refl _) _
  have hB := Blk.new w 43 (ocells k (.slice Ad d.length cd) (.slice Ae en.length ce) tr (.slice Ap pa.length cp) ta na wh st te)
  have hEC : Hid (errC (checkB geS ⟨k, d, en, tr, pa, ta, na, wh, st, te⟩) = 1) := Lib.hid (by rw [HC.out]; rfl)
  go_enter Try.func9, Try.ntmps9
  go_wp2_with fail
  refine (awake_calls _).mono ?_
  rintro e w1 ⟨rfl, hb1⟩
  have hB1 := hB.below hb1 hB.lt
  have hbw := hb0.next hb1
  obtain ⟨c0, c1, c2, c3, c4, c5, c6, c7, c8, c9⟩ := obj_cells hB1
  have hd1 := hd.alive hbw
  have he1 := he.alive hbw
  have hp1 := hp.alive hbw
  go_wp2_with fail
  refine (Encode_wrong k Ad d cd Ae en ce tr Ap pa cp ta na wh st te w1 hd1 he1 hp1 hel hpl hsz HC).mono ?_
  rintro e w2 ⟨rfl, hb2⟩
  have hB2 := hB1.below hb2 hB1.lt
  obtain ⟨b0, b1, b2, b3, b4, b5, b6, b7, b8, b9⟩ := obj_cells hB2
  have hd2 := hd1.alive hb2
  have he2 := he1.alive hb2
  have hp2 := hp1.alive hb2
  go_wp2_with fail
  refine (Check_calls k Ad d cd Ae en ce tr Ap pa cp ta na wh st te w2 hd2 he2 hp2 hel hpl hsz).mono ?_
  rintro e w3 ⟨rfl, hb3⟩
  rw [hEC.out]
  go_wp2_with fail
  go_ret
  exact ⟨rfl, (hbw.next hb2).next hb3⟩

/-- The head of an object's bytes. -/
theorem enc_head {o : Go.Dol.Obj} (h : checkB geS o = true) {l : List UInt8} (hl : l = encO o) : ∃ (x : UInt8) (r : List UInt8), l = x :: r ∧ (x.toNat : Int) = o.kind ∧ (o.kind = 1 → r = o.data) := by
  refine ⟨UInt8.ofNat o.kind.toNat, l.tail, ?_, ?_, ?_⟩
  · rw [hl]; rfl
  · have := check_kind h
    rcases this with e | e | e | e <;> rw [e] <;> rfl
  · intro e
    rw [hl]
    show (if o.kind = 1 then o.data else _) = _
    rw [if_pos e]
set_option maxRecDepth 100000 in
set_option maxHeartbeats 4000000 in
theorem kinds_blob (k : Int) (Ad : Option Addr) (d : List UInt8) (cd : Nat) (Ae : Option Addr) (en : List Ent) (ce : Nat) (tr : ByteArray) (Ap : Option Addr) (pa : List ByteArray) (cp : Nat) (ta na wh : ByteArray) (st : Int) (te : ByteArray) (w : World) (hd : Rd w w.heap.size 1 Ad d.length (bc d)) (he : Rd w w.heap.size 3 Ae en.length (ec en)) (hp : Rd w w.heap.size 1 Ap pa.length (pc pa)) (hel : en.length ≤ 140737488355328) (hpl : pa.length ≤ 140737488355328) (hsz : Hid (∀ p ∈ pa, p.size ≤ maxLen)) (HC : Hid (checkB geS ⟨k, d, en, tr, pa, ta, na, wh, st, te⟩ = true)) (hk1 : Hid (k = 1)) :
    Calls Try.prog 9 #[.agg #[.int .i64 k, .slice Ad d.length cd, .slice Ae en.length ce, .string tr, .slice Ap pa.length cp, .string ta, .string na, .string wh, .int .i64 st, .string te]] w fun e w' => e = .returned (.bool true) ∧ Below w.heap.size w w' := by
  have hb0 : Below w.heap.size w (w.alloc (.cells #[.int .i64 k, .slice Ad d.length cd, .slice Ae en.length ce, .string tr, .slice Ap pa.length cp, .string ta, .string na, .string wh, .int .i64 st, .string te] 43)) := (Below.refl _ _).alloc (Nat.le_refl _) _
  have hB := Blk.new w 43 (ocells k (.slice Ad d.length cd) (.slice Ae en.length ce) tr (.slice Ap pa.length cp) ta na wh st te)
  go_enter Try.func9, Try.ntmps9
  go_wp2_with fail
  refine (awake_calls _).mono ?_
  rintro e w1 ⟨rfl, hb1⟩
  have hB1 := hB.below hb1 hB.lt
  have hbw := hb0.next hb1
  obtain ⟨c0, c1, c2, c3, c4, c5, c6, c7, c8, c9⟩ := obj_cells hB1
  have hd1 := hd.alive hbw
  have he1 := he.alive hbw
  have hp1 := hp.alive hbw
  go_wp2_with fail
  refine (Encode_calls k Ad d cd Ae en ce tr Ap pa cp ta na wh st te w1 hd1 he1 hp1 hel hpl hsz).mono ?_
  intro e w2 hR
  obtain ⟨l, A, c, el, rfl, ho, hb2⟩ := RetGood.of HC.out hR
  clear hR
  have hB2 := hB1.below hb2 hB1.lt
  obtain ⟨b0, b1, b2, b3, b4, b5, b6, b7, b8, b9⟩ := obj_cells hB2
  have hd2 := hd1.alive hb2
  have hr2 := Rd.of_own ho
  obtain ⟨hlc, hcm⟩ := own_le ho
  obtain ⟨x, r, hl, hx, hdat⟩ := enc_head HC.out el.out
  have hll : l.length = r.length + 1 := by rw [hl]; rfl
  obtain ⟨g, off, rfl, hg, hcell⟩ := hr2.at_ (by omega)
  have hx0 : w2.cell? ⟨g, off, none⟩ = some (.int .u8 x.toNat) := hcell 0 (.int .u8 x.toNat) (by rw [hl]; rfl)
  have hxl : x.toNat < 256 := x.toNat_lt
  have hxk : (x.toNat : Int) = k := hx
  have hwx : IntKind.i64.wrap (x.toNat : Int) = k := (IntWalk.i64_in _ (by omega)).trans hxk
  have d1 : decide ((l.length : Int) ≥ 1) = true := decide_eq_true (by omega)
  have d1' : decide ((1 : Int) ≤ (l.length : Int)) = true := decide_eq_true (by omega)
  have hn0 : (0 : Int) < (l.length : Int) := by omega
  obtain ⟨m, A', c', em, jm, jm', ⟨rm, km, km'⟩, _, _, _, sm⟩ := sl_from (k := 1) 1 rfl hr2 (by omega) hlc hcm
  have hmd : m = d := by rw [em.out, hl]; exact hdat hk1.out
  have hk := hk1.out
  subst hk
  subst hmd
  have v1 : ∀ k : Nat, (convert 22 9 (.slice A' m.length c')).run Try.prog (w2.drewN k) = .ok (.string ⟨m.toArray⟩) (w2.drewN k) := fun k => conv8f (rm.drewN k)
  have v2 : ∀ k : Nat, (convert 22 9 (.slice Ad m.length cd)).run Try.prog (w2.drewN k) = .ok (.string ⟨m.toArray⟩) (w2.drewN k) := fun k => conv8f (hd2.drewN k)
  have HL := Lib.hid hl
  have HX := Lib.hid hxk
  clear hcell ho hd1 he1 hp1
  clear hl hll hx hxk hdat jm jm' rm km km' hd2 hr2 hg
  generalize hn : l.length = n at sm hn0 d1 d1' hlc ⊢
  clear hn
  have hn1 : 0 < n := by omega
  have hix : ∀ w' : World, (Instr.indexAt 22 (.slice (some ⟨g, off, none⟩) n c) (.int .i64 0)).run Try.prog w' = .ok (.pointer (some ⟨g, off, none⟩)) w' := fun w' => index_zero g off n c w' hn1
  go_wp2_with fail
  go_quiet (fail)
  go_wp2_with fail
  go_ret
  first | exact ⟨rfl, (hbw.next hb2).drew⟩ | exact ⟨rfl, (hbw.next hb2).drewN' _⟩

set_option maxRecDepth 100000 in
set_option maxHeartbeats 4000000 in
theorem kinds_other (k : Int) (Ad : Option Addr) (d : List UInt8) (cd : Nat) (Ae : Option Addr) (en : List Ent) (ce : Nat) (tr : ByteArray) (Ap : Option Addr) (pa : List ByteArray) (cp : Nat) (ta na wh : ByteArray) (st : Int) (te : ByteArray) (w : World) (hd : Rd w w.heap.size 1 Ad d.length (bc d)) (he : Rd w w.heap.size 3 Ae en.length (ec en)) (hp : Rd w w.heap.size 1 Ap pa.length (pc pa)) (hel : en.length ≤ 140737488355328) (hpl : pa.length ≤ 140737488355328) (hsz : Hid (∀ p ∈ pa, p.size ≤ maxLen)) (HC : Hid (checkB geS ⟨k, d, en, tr, pa, ta, na, wh, st, te⟩ = true)) (hk1 : Hid (¬ k = 1)) :
    Calls Try.prog 9 #[.agg #[.int .i64 k, .slice Ad d.length cd, .slice Ae en.length ce, .string tr, .slice Ap pa.length cp, .string ta, .string na, .string wh, .int .i64 st, .string te]] w fun e w' => e = .returned (.bool true) ∧ Below w.heap.size w w' := by
  have hb0 : Below w.heap.size w (w.alloc (.cells #[.int .i64 k, .slice Ad d.length cd, .slice Ae en.length ce, .string tr, .slice Ap pa.length cp, .string ta, .string na, .string wh, .int .i64 st, .string te] 43)) := (Below.refl _ _).alloc (Nat.le_refl _) _
  have hB := Blk.new w 43 (ocells k (.slice Ad d.length cd) (.slice Ae en.length ce) tr (.slice Ap pa.length cp) ta na wh st te)
  go_enter Try.func9, Try.ntmps9
  go_wp2_with fail
  refine (awake_calls _).mono ?_
  rintro e w1 ⟨rfl, hb1⟩
  have hB1 := hB.below hb1 hB.lt
  have hbw := hb0.next hb1
  obtain ⟨c0, c1, c2, c3, c4, c5, c6, c7, c8, c9⟩ := obj_cells hB1
  have hd1 := hd.alive hbw
  have he1 := he.alive hbw
  have hp1 := hp.alive hbw
  go_wp2_with fail
  refine (Encode_calls k Ad d cd Ae en ce tr Ap pa cp ta na wh st te w1 hd1 he1 hp1 hel hpl hsz).mono ?_
  intro e w2 hR
  obtain ⟨l, A, c, el, rfl, ho, hb2⟩ := RetGood.of HC.out hR
  clear hR
  have hB2 := hB1.below hb2 hB1.lt
  obtain ⟨b0, b1, b2, b3, b4, b5, b6, b7, b8, b9⟩ := obj_cells hB2
  have hd2 := hd1.alive hb2
  have hr2 := Rd.of_own ho
  obtain ⟨hlc, hcm⟩ := own_le ho
  obtain ⟨x, r, hl, hx, hdat⟩ := enc_head HC.out el.out
  have hll : l.length = r.length + 1 := by rw [hl]; rfl
  obtain ⟨g, off, rfl, hg, hcell⟩ := hr2.at_ (by omega)
  have hx0 : w2.cell? ⟨g, off, none⟩ = some (.int .u8 x.toNat) := hcell 0 (.int .u8 x.toNat) (by rw [hl]; rfl)
  have hxl : x.toNat < 256 := x.toNat_lt
  have hxk : (x.toNat : Int) = k := hx
  have hwx : IntKind.i64.wrap (x.toNat : Int) = k := (IntWalk.i64_in _ (by omega)).trans hxk
  have d1 : decide ((l.length : Int) ≥ 1) = true := decide_eq_true (by omega)
  have d1' : decide ((1 : Int) ≤ (l.length : Int)) = true := decide_eq_true (by omega)
  have hn0 : (0 : Int) < (l.length : Int) := by omega
  have k0 : (k != 1) = true := bne_iff_ne.2 hk1.out
  have HL := Lib.hid hl
  have HX := Lib.hid hxk
  clear hcell ho hd1 he1 hp1
  clear hl hll hx hxk hdat hd2 hr2 hg
  generalize hn : l.length = n at hn0 d1 d1' hlc ⊢
  clear hn
  have hn1 : 0 < n := by omega
  have hix : ∀ w' : World, (Instr.indexAt 22 (.slice (some ⟨g, off, none⟩) n c) (.int .i64 0)).run Try.prog w' = .ok (.pointer (some ⟨g, off, none⟩)) w' := fun w' => index_zero g off n c w' hn1
  go_wp2_with fail
  go_quiet (fail)
  go_wp2_with fail
  go_ret
  first | exact ⟨rfl, (hbw.next hb2).drew⟩ | exact ⟨rfl, (hbw.next hb2).drewN' _⟩

theorem objectKinds_walk (k : Int) (Ad : Option Addr) (d : List UInt8) (cd : Nat) (Ae : Option Addr) (en : List Ent) (ce : Nat) (tr : ByteArray) (Ap : Option Addr) (pa : List ByteArray) (cp : Nat) (ta na wh : ByteArray) (st : Int) (te : ByteArray) (w : World) (hd : Rd w w.heap.size 1 Ad d.length (bc d)) (he : Rd w w.heap.size 3 Ae en.length (ec en)) (hp : Rd w w.heap.size 1 Ap pa.length (pc pa)) (hel : en.length ≤ 140737488355328) (hpl : pa.length ≤ 140737488355328) (hsz : Hid (∀ p ∈ pa, p.size ≤ maxLen)) (wk : (Lit.int .i64 k).wf = true) (ws : (Lit.int .i64 st).wf = true) :
    Calls Try.prog 9 #[.agg #[.int .i64 k, .slice Ad d.length cd, .slice Ae en.length ce, .string tr, .slice Ap pa.length cp, .string ta, .string na, .string wh, .int .i64 st, .string te]] w fun e w' => e = .returned (.bool true) ∧ Below w.heap.size w w' := by
  cases hc : checkB geS ⟨k, d, en, tr, pa, ta, na, wh, st, te⟩ with
  | false => exact kinds_wrong k Ad d cd Ae en ce tr Ap pa cp ta na wh st te w hd he hp hel hpl hsz (Lib.hid hc)
  | true =>
    by_cases hk : k = 1
    · exact kinds_blob k Ad d cd Ae en ce tr Ap pa cp ta na wh st te w hd he hp hel hpl hsz (Lib.hid hc) (Lib.hid hk)
    · exact kinds_other k Ad d cd Ae en ce tr Ap pa cp ta na wh st te w hd he hp hel hpl hsz (Lib.hid hc) (Lib.hid hk)
end Go.Proofs.Ytcefbhmmijmefaa
