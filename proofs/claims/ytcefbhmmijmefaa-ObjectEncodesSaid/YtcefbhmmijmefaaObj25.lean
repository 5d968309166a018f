/- The walks of the document's 'object', its eighth part: Links. Conditions: lengths below 2^47. -/
import Derived.Test.YtcefbhmmijmefaaObj20
import Derived.Test.YtcefbhmmijmefaaObj13
namespace Go.Proofs.Ytcefbhmmijmefaa
open Go.RowKit Go.Dol
set_option linter.unusedVariables false

theorem noEnts_len {o : Go.Dol.Obj} (h : noEnts o = true) : o.ents.length = 0 := by
  unfold noEnts at h
  simpa using h
theorem entsO_small {o : Go.Dol.Obj} (h : checkB geS o = true) : o.ents.length ≤ 4096 := by
  obtain ⟨k, d, en, tr, pa, ta, na, wh, st, te⟩ := o
  rcases check_kind h with e | e | e | e
  · have e' : k = 1 := e
    subst e'
    rw [check_is1] at h
    simp only [Bool.and_eq_true] at h
    have := noEnts_len (by first | exact h.2.1.1.1 | exact h.2.1.1)
    simp only at this ⊢
    omega
  · exact (entsB_parts (check2_parts e h)).2
  · have e' : k = 3 := e
    subst e'
    rw [check_is3] at h
    simp only [Bool.and_eq_true] at h
    have := noEnts_len h.2.1.2
    simp only at this ⊢
    omega
  · have e' : k = 4 := e
    subst e'
    rw [check_is4] at h
    simp only [Bool.and_eq_true] at h
    have := noEnts_len h.2.1.2
    simp only at this ⊢
    omega
theorem ents_none {o : Go.Dol.Obj} (h : checkB geS o = true) (hk : o.kind ≠ 2) : o.ents = [] := by
  obtain ⟨k, d, en, tr, pa, ta, na, wh, st, te⟩ := o
  rcases check_kind h with e | e | e | e
  · have e' : k = 1 := e
    subst e'
    rw [check_is1] at h
    simp only [Bool.and_eq_true] at h
    exact List.length_eq_zero_iff.1 (noEnts_len (by first | exact h.2.1.1.1 | exact h.2.1.1))
  · exact absurd e hk
  · have e' : k = 3 := e
    subst e'
    rw [check_is3] at h
    simp only [Bool.and_eq_true] at h
    exact List.length_eq_zero_iff.1 (noEnts_len h.2.1.2)
  · have e' : k = 4 := e
    subst e'
    rw [check_is4] at h
    simp only [Bool.and_eq_true] at h
    exact List.length_eq_zero_iff.1 (noEnts_len h.2.1.2)

set_option maxRecDepth 100000 in
set_option maxHeartbeats 4000000 in
theorem refLinks_wrong (k : Int) (Ad : Option Addr) (d : List UInt8) (cd : Nat) (Ae : Option Addr) (en : List Ent) (ce : Nat) (tr : ByteArray) (Ap : Option Addr) (pa : List ByteArray) (cp : Nat) (ta na wh : ByteArray) (st : Int) (te : ByteArray) (w : World) (hd : Rd w w.heap.size 1 Ad d.length (bc d)) (he : Rd w w.heap.size 3 Ae en.length (ec en)) (hp : Rd w w.heap.size 1 Ap pa.length (pc pa)) (hel : en.length ≤ 140737488355328) (hpl : pa.length ≤ 140737488355328) (hns : Hid (∀ e ∈ en, e.name.size ≤ maxLen)) (HC : Hid (checkB geS (⟨k, d, en, tr, pa, ta, na, wh, st, te⟩ : Go.Dol.Obj) = false)) :
    Calls Try.prog 48 #[.agg #[.int .i64 k, .slice Ad d.length cd, .slice Ae en.length ce, .string tr, .slice Ap pa.length cp, .string ta, .string na, .string wh, .int .i64 st, .string te]] w fun e w' => e = .returned (.slice none 0 0) ∧ Below w.heap.size w w' := by
  have hb0 : Below w.heap.size w (w.alloc (.cells #[.int .i64 k, .slice Ad d.length cd, .slice Ae en.length ce, .string tr, .slice Ap pa.length cp, .string ta, .string na, .string wh, .int .i64 st, .string te] 43)) := (Below.refl _ _).alloc (Nat.le_refl _) _
  have hB := Blk.new w 43 (ocells k (.slice Ad d.length cd) (.slice Ae en.length ce) tr (.slice Ap pa.length cp) ta na wh st te)
  have hd0 := hd.alive hb0
  have he0 := he.alive hb0
  have hp0 := hp.alive hb0
  have hEC : Hid (errC (checkB geS (⟨k, d, en, tr, pa, ta, na, wh, st, te⟩ : Go.Dol.Obj)) = 1) := Lib.hid (by rw [HC.out]; rfl)
  go_enter Try.func48, Try.ntmps48
  go_wp2_with fail
  refine (refCheck_calls k Ad d cd Ae en ce tr Ap pa cp ta na wh st te _ he0 hp0 hel hpl hns).mono ?_
  rintro e w1 ⟨rfl, hb1⟩
  rw [hEC.out]
  go_wp2_with fail
  go_ret
  exact ⟨rfl, hb0.next hb1⟩

def RLinkRel (g : Nat) (cs : List Value) (es : List Ent) (w : World) (b i : Value) (wr : World) : Prop :=
  ∃ (k : Nat) (A : Option Addr) (c : Nat), i = .int .i64 k ∧ b = .slice A k c ∧ k ≤ es.length ∧ wr.ownsRow w.heap.size 9 1 (.slice A k c) k (pc (idsN es k)) ∧ Blk wr g 43 cs ∧ Below w.heap.size w wr

set_option maxRecDepth 100000 in
set_option maxHeartbeats 4000000 in
theorem refLinks1_calls (Ad : Option Addr) (d : List UInt8) (cd : Nat) (Ae : Option Addr) (en : List Ent) (ce : Nat) (tr : ByteArray) (Ap : Option Addr) (pa : List ByteArray) (cp : Nat) (ta na wh : ByteArray) (st : Int) (te : ByteArray) (w : World) (hd : Rd w w.heap.size 1 Ad d.length (bc d)) (he : Rd w w.heap.size 3 Ae en.length (ec en)) (hp : Rd w w.heap.size 1 Ap pa.length (pc pa)) (hel : en.length ≤ 140737488355328) (hpl : pa.length ≤ 140737488355328) (hns : Hid (∀ e ∈ en, e.name.size ≤ maxLen)) (HC : Hid (checkB geS (⟨1, d, en, tr, pa, ta, na, wh, st, te⟩ : Go.Dol.Obj) = true)) :
    Calls Try.prog 48 #[.agg #[.int .i64 1, .slice Ad d.length cd, .slice Ae en.length ce, .string tr, .slice Ap pa.length cp, .string ta, .string na, .string wh, .int .i64 st, .string te]] w (RetL w.heap.size w (linksO (⟨1, d, en, tr, pa, ta, na, wh, st, te⟩ : Go.Dol.Obj))) := by
  have hb0 : Below w.heap.size w (w.alloc (.cells #[.int .i64 1, .slice Ad d.length cd, .slice Ae en.length ce, .string tr, .slice Ap pa.length cp, .string ta, .string na, .string wh, .int .i64 st, .string te] 43)) := (Below.refl _ _).alloc (Nat.le_refl _) _
  have hB := Blk.new w 43 (ocells 1 (.slice Ad d.length cd) (.slice Ae en.length ce) tr (.slice Ap pa.length cp) ta na wh st te)
  have hd0 := hd.alive hb0
  have he0 := he.alive hb0
  have hp0 := hp.alive hb0
  have hEC : Hid (errC (checkB geS (⟨1, d, en, tr, pa, ta, na, wh, st, te⟩ : Go.Dol.Obj)) = 0) := Lib.hid (by rw [HC.out]; rfl)
  go_enter Try.func48, Try.ntmps48
  go_wp2_with fail
  refine (refCheck_calls 1 Ad d cd Ae en ce tr Ap pa cp ta na wh st te _ he0 hp0 hel hpl hns).mono ?_
  rintro e w1 ⟨rfl, hb1⟩
  rw [hEC.out]
  have HE : Hid (en = []) := Lib.hid (ents_none HC.out (fun h => by cases h))
  have hes : en.length ≤ 4096 := entsO_small HC.out
  have hB1 := hB.below hb1 hB.lt
  have hbw := hb0.next hb1
  have hp1 := hp0.alive hb1
  go_wp2_with fail
  obtain ⟨g, hg⟩ : ∃ g, g = w.heap.size := ⟨_, rfl⟩
  rw [← hg] at hB1 ⊢
  have HG := Lib.hid hg
  clear hg hB hb0 hd0 he0 hp0 hb1 hEC
  rw [HG.out]
  rw [← HG.out]
  go_loopw [3, 4] (fun b i wr => RLinkRel g (ocells 1 (.slice Ad d.length cd) (.slice Ae en.length ce) tr (.slice Ap pa.length cp) ta na wh st te) en w b i wr) (fun _ i _ => en.length - (intOf i).toNat)
  case atStart => exact ⟨0, none, 0, rfl, rfl, Nat.zero_le _, World.ownsRow_nil _ _ _ _, hB1, hbw⟩
  case round =>
    clear hB1 hbw
    obtain ⟨k, A3, c3, rfl, rfl, hk, hown, hB, hbel⟩ := hrel
    have f1 : IntKind.i64.wrap ((k : Int) + 1) = (k : Int) + 1 := IntWalk.i64_in _ (by omega)
    by_cases h1 : k < en.length
    · have d1 : decide ((k : Int) < (en.length : Int)) = true := decide_eq_true (by omega)
      have d1' : (k : Int) < (en.length : Int) := by omega
      have hk0 : (0 : Int) ≤ (k : Int) := by omega
      have hlen1 : en.length ≤ 9223372036854775807 := by omega
      have hrw := he.below hbel
      obtain ⟨bb, off, rfl, hbb, hcell⟩ := hrw.at_ (by omega)
      obtain ⟨p0, p1, p2⟩ := ec_get h1
      have q2 : wr.cell? ⟨bb, off + k * 3 + 2, none⟩ = _ := hcell _ _ p2
      have hsucc := Lib.hid (idsN_succ h1)
      obtain ⟨x, hx⟩ : ∃ x, x = en[k] := ⟨_, rfl⟩
      rw [← hx] at q2 hsucc
      obtain ⟨x0, x1, x2⟩ := x
      simp only at q2
      have hb6 := hbel.alloc hbel.size (.cells #[.string x2] 9)
      have hB6 := hB.alloc (.cells #[.string x2] 9)
      have ho6 := hown.alloc (.cells #[.string x2] 9)
      have hr6 := Rd.new1 wr 9 (.string x2)
      have hne : some g ≠ (Value.slice A3 k c3).ownBlock := fun e => own_ne ho6 hB6 (by decide) e.symm
      obtain ⟨cc0, cc1, cc2, cc3, cc4, cc5, cc6, cc7, cc8, cc9⟩ := obj_cells hB
      clear hx hcell p0 p1 p2
      go_wp2_with (at_builtin; refine appVl rfl (.tmp 15) (.tmp 22) 41 9 _ 16 rfl Try.underlying41 info_str rfl w.heap.size _ k _ rfl ho6 _ _ 1 1 [.string x2] rfl hr6 (by intro u hu; obtain rfl := List.mem_singleton.1 hu; rfl) (by unfold maxLen; omega) (by omega) hb6.size ?_)
      intro A4 c4 w4 ho4 hb4 hg4 i5 i6
      go_wp2_with fail
      refine ⟨⟨k + 1, A4, c4, by go_num, rfl, h1, ?_, hB6.grown hg4 hne, hb6.trans hb4⟩, by simp [intOf]; omega⟩
      rw [hsucc.out, pc_append]
      exact ho4
    · have d1 : decide ((k : Int) < (en.length : Int)) = false := decide_eq_false (by omega)
      have d1' : ¬ (k : Int) < (en.length : Int) := by omega
      have hkl : k = (idsN en k).length := (idsN_length hk).symm
      have hke : Hid (idsN en k = en.map (·.id)) := by
        unfold Hid idsN
        rw [List.take_of_length_le (by omega)]
      have HK := Lib.hid hkl
      clear hkl
      obtain ⟨cc0, cc1, cc2, cc3, cc4, cc5, cc6, cc7, cc8, cc9⟩ := obj_cells hB
      go_wp2_with fail
      go_ret
      refine ⟨idsN en k, A3, c3, ?_, ?_, ?_, hbel⟩
      · unfold Hid
        rw [hke.out, HE.out]
        rfl
      · rw [← HK.out]
        rfl
      · rw [← HK.out]
        exact hown

set_option maxRecDepth 100000 in
set_option maxHeartbeats 4000000 in
theorem refLinks2_calls (Ad : Option Addr) (d : List UInt8) (cd : Nat) (Ae : Option Addr) (en : List Ent) (ce : Nat) (tr : ByteArray) (Ap : Option Addr) (pa : List ByteArray) (cp : Nat) (ta na wh : ByteArray) (st : Int) (te : ByteArray) (w : World) (hd : Rd w w.heap.size 1 Ad d.length (bc d)) (he : Rd w w.heap.size 3 Ae en.length (ec en)) (hp : Rd w w.heap.size 1 Ap pa.length (pc pa)) (hel : en.length ≤ 140737488355328) (hpl : pa.length ≤ 140737488355328) (hns : Hid (∀ e ∈ en, e.name.size ≤ maxLen)) (HC : Hid (checkB geS (⟨2, d, en, tr, pa, ta, na, wh, st, te⟩ : Go.Dol.Obj) = true)) :
    Calls Try.prog 48 #[.agg #[.int .i64 2, .slice Ad d.length cd, .slice Ae en.length ce, .string tr, .slice Ap pa.length cp, .string ta, .string na, .string wh, .int .i64 st, .string te]] w (RetL w.heap.size w (linksO (⟨2, d, en, tr, pa, ta, na, wh, st, te⟩ : Go.Dol.Obj))) := by
  have hb0 : Below w.heap.size w (w.alloc (.cells #[.int .i64 2, .slice Ad d.length cd, .slice Ae en.length ce, .string tr, .slice Ap pa.length cp, .string ta, .string na, .string wh, .int .i64 st, .string te] 43)) := (Below.refl _ _).alloc (Nat.le_refl _) _
  have hB := Blk.new w 43 (ocells 2 (.slice Ad d.length cd) (.slice Ae en.length ce) tr (.slice Ap pa.length cp) ta na wh st te)
  have hd0 := hd.alive hb0
  have he0 := he.alive hb0
  have hp0 := hp.alive hb0
  have hEC : Hid (errC (checkB geS (⟨2, d, en, tr, pa, ta, na, wh, st, te⟩ : Go.Dol.Obj)) = 0) := Lib.hid (by rw [HC.out]; rfl)
  go_enter Try.func48, Try.ntmps48
  go_wp2_with fail
  refine (refCheck_calls 2 Ad d cd Ae en ce tr Ap pa cp ta na wh st te _ he0 hp0 hel hpl hns).mono ?_
  rintro e w1 ⟨rfl, hb1⟩
  rw [hEC.out]
  have hes : en.length ≤ 4096 := entsO_small HC.out
  have hB1 := hB.below hb1 hB.lt
  have hbw := hb0.next hb1
  have hp1 := hp0.alive hb1
  go_wp2_with fail
  obtain ⟨g, hg⟩ : ∃ g, g = w.heap.size := ⟨_, rfl⟩
  rw [← hg] at hB1 ⊢
  have HG := Lib.hid hg
  clear hg hB hb0 hd0 he0 hp0 hb1 hEC
  rw [HG.out]
  rw [← HG.out]
  go_loopw [3, 4] (fun b i wr => RLinkRel g (ocells 2 (.slice Ad d.length cd) (.slice Ae en.length ce) tr (.slice Ap pa.length cp) ta na wh st te) en w b i wr) (fun _ i _ => en.length - (intOf i).toNat)
  case atStart => exact ⟨0, none, 0, rfl, rfl, Nat.zero_le _, World.ownsRow_nil _ _ _ _, hB1, hbw⟩
  case round =>
    clear hB1 hbw
    obtain ⟨k, A3, c3, rfl, rfl, hk, hown, hB, hbel⟩ := hrel
    have f1 : IntKind.i64.wrap ((k : Int) + 1) = (k : Int) + 1 := IntWalk.i64_in _ (by omega)
    by_cases h1 : k < en.length
    · have d1 : decide ((k : Int) < (en.length : Int)) = true := decide_eq_true (by omega)
      have d1' : (k : Int) < (en.length : Int) := by omega
      have hk0 : (0 : Int) ≤ (k : Int) := by omega
      have hlen1 : en.length ≤ 9223372036854775807 := by omega
      have hrw := he.below hbel
      obtain ⟨bb, off, rfl, hbb, hcell⟩ := hrw.at_ (by omega)
      obtain ⟨p0, p1, p2⟩ := ec_get h1
      have q2 : wr.cell? ⟨bb, off + k * 3 + 2, none⟩ = _ := hcell _ _ p2
      have hsucc := Lib.hid (idsN_succ h1)
      obtain ⟨x, hx⟩ : ∃ x, x = en[k] := ⟨_, rfl⟩
      rw [← hx] at q2 hsucc
      obtain ⟨x0, x1, x2⟩ := x
      simp only at q2
      have hb6 := hbel.alloc hbel.size (.cells #[.string x2] 9)
      have hB6 := hB.alloc (.cells #[.string x2] 9)
      have ho6 := hown.alloc (.cells #[.string x2] 9)
      have hr6 := Rd.new1 wr 9 (.string x2)
      have hne : some g ≠ (Value.slice A3 k c3).ownBlock := fun e => own_ne ho6 hB6 (by decide) e.symm
      obtain ⟨cc0, cc1, cc2, cc3, cc4, cc5, cc6, cc7, cc8, cc9⟩ := obj_cells hB
      clear hx hcell p0 p1 p2
      go_wp2_with (at_builtin; refine appVl rfl (.tmp 15) (.tmp 22) 41 9 _ 16 rfl Try.underlying41 info_str rfl w.heap.size _ k _ rfl ho6 _ _ 1 1 [.string x2] rfl hr6 (by intro u hu; obtain rfl := List.mem_singleton.1 hu; rfl) (by unfold maxLen; omega) (by omega) hb6.size ?_)
      intro A4 c4 w4 ho4 hb4 hg4 i5 i6
      go_wp2_with fail
      refine ⟨⟨k + 1, A4, c4, by go_num, rfl, h1, ?_, hB6.grown hg4 hne, hb6.trans hb4⟩, by simp [intOf]; omega⟩
      rw [hsucc.out, pc_append]
      exact ho4
    · have d1 : decide ((k : Int) < (en.length : Int)) = false := decide_eq_false (by omega)
      have d1' : ¬ (k : Int) < (en.length : Int) := by omega
      have hkl : k = (idsN en k).length := (idsN_length hk).symm
      have hke : Hid (idsN en k = en.map (·.id)) := by
        unfold Hid idsN
        rw [List.take_of_length_le (by omega)]
      have HK := Lib.hid hkl
      clear hkl
      obtain ⟨cc0, cc1, cc2, cc3, cc4, cc5, cc6, cc7, cc8, cc9⟩ := obj_cells hB
      go_wp2_with fail
      go_ret
      refine ⟨idsN en k, A3, c3, hke, ?_, ?_, hbel⟩
      · rw [← HK.out]
        rfl
      · rw [← HK.out]
        exact hown

set_option maxRecDepth 100000 in
set_option maxHeartbeats 4000000 in
theorem refLinks3_calls (Ad : Option Addr) (d : List UInt8) (cd : Nat) (Ae : Option Addr) (en : List Ent) (ce : Nat) (tr : ByteArray) (Ap : Option Addr) (pa : List ByteArray) (cp : Nat) (ta na wh : ByteArray) (st : Int) (te : ByteArray) (w : World) (hd : Rd w w.heap.size 1 Ad d.length (bc d)) (he : Rd w w.heap.size 3 Ae en.length (ec en)) (hp : Rd w w.heap.size 1 Ap pa.length (pc pa)) (hel : en.length ≤ 140737488355328) (hpl : pa.length ≤ 140737488355328) (hns : Hid (∀ e ∈ en, e.name.size ≤ maxLen)) (HC : Hid (checkB geS (⟨3, d, en, tr, pa, ta, na, wh, st, te⟩ : Go.Dol.Obj) = true)) :
    Calls Try.prog 48 #[.agg #[.int .i64 3, .slice Ad d.length cd, .slice Ae en.length ce, .string tr, .slice Ap pa.length cp, .string ta, .string na, .string wh, .int .i64 st, .string te]] w (RetL w.heap.size w (linksO (⟨3, d, en, tr, pa, ta, na, wh, st, te⟩ : Go.Dol.Obj))) := by
  have hb0 : Below w.heap.size w (w.alloc (.cells #[.int .i64 3, .slice Ad d.length cd, .slice Ae en.length ce, .string tr, .slice Ap pa.length cp, .string ta, .string na, .string wh, .int .i64 st, .string te] 43)) := (Below.refl _ _).alloc (Nat.le_refl _) _
  have hB := Blk.new w 43 (ocells 3 (.slice Ad d.length cd) (.slice Ae en.length ce) tr (.slice Ap pa.length cp) ta na wh st te)
  have hd0 := hd.alive hb0
  have he0 := he.alive hb0
  have hp0 := hp.alive hb0
  have hEC : Hid (errC (checkB geS (⟨3, d, en, tr, pa, ta, na, wh, st, te⟩ : Go.Dol.Obj)) = 0) := Lib.hid (by rw [HC.out]; rfl)
  go_enter Try.func48, Try.ntmps48
  go_wp2_with fail
  refine (refCheck_calls 3 Ad d cd Ae en ce tr Ap pa cp ta na wh st te _ he0 hp0 hel hpl hns).mono ?_
  rintro e w1 ⟨rfl, hb1⟩
  rw [hEC.out]
  have HE : Hid (en = []) := Lib.hid (ents_none HC.out (fun h => by cases h))
  have hes : en.length ≤ 4096 := entsO_small HC.out
  have hB1 := hB.below hb1 hB.lt
  have hbw := hb0.next hb1
  have hp1 := hp0.alive hb1
  go_wp2_with fail
  obtain ⟨g, hg⟩ : ∃ g, g = w.heap.size := ⟨_, rfl⟩
  rw [← hg] at hB1 ⊢
  have HG := Lib.hid hg
  clear hg hB hb0 hd0 he0 hp0 hb1 hEC
  rw [HG.out]
  rw [← HG.out]
  go_loopw [3, 4] (fun b i wr => RLinkRel g (ocells 3 (.slice Ad d.length cd) (.slice Ae en.length ce) tr (.slice Ap pa.length cp) ta na wh st te) en w b i wr) (fun _ i _ => en.length - (intOf i).toNat)
  case atStart => exact ⟨0, none, 0, rfl, rfl, Nat.zero_le _, World.ownsRow_nil _ _ _ _, hB1, hbw⟩
  case round =>
    clear hB1 hbw
    obtain ⟨k, A3, c3, rfl, rfl, hk, hown, hB, hbel⟩ := hrel
    have f1 : IntKind.i64.wrap ((k : Int) + 1) = (k : Int) + 1 := IntWalk.i64_in _ (by omega)
    by_cases h1 : k < en.length
    · have d1 : decide ((k : Int) < (en.length : Int)) = true := decide_eq_true (by omega)
      have d1' : (k : Int) < (en.length : Int) := by omega
      have hk0 : (0 : Int) ≤ (k : Int) := by omega
      have hlen1 : en.length ≤ 9223372036854775807 := by omega
      have hrw := he.below hbel
      obtain ⟨bb, off, rfl, hbb, hcell⟩ := hrw.at_ (by omega)
      obtain ⟨p0, p1, p2⟩ := ec_get h1
      have q2 : wr.cell? ⟨bb, off + k * 3 + 2, none⟩ = _ := hcell _ _ p2
      have hsucc := Lib.hid (idsN_succ h1)
      obtain ⟨x, hx⟩ : ∃ x, x = en[k] := ⟨_, rfl⟩
      rw [← hx] at q2 hsucc
      obtain ⟨x0, x1, x2⟩ := x
      simp only at q2
      have hb6 := hbel.alloc hbel.size (.cells #[.string x2] 9)
      have hB6 := hB.alloc (.cells #[.string x2] 9)
      have ho6 := hown.alloc (.cells #[.string x2] 9)
      have hr6 := Rd.new1 wr 9 (.string x2)
      have hne : some g ≠ (Value.slice A3 k c3).ownBlock := fun e => own_ne ho6 hB6 (by decide) e.symm
      obtain ⟨cc0, cc1, cc2, cc3, cc4, cc5, cc6, cc7, cc8, cc9⟩ := obj_cells hB
      clear hx hcell p0 p1 p2
      go_wp2_with (at_builtin; refine appVl rfl (.tmp 15) (.tmp 22) 41 9 _ 16 rfl Try.underlying41 info_str rfl w.heap.size _ k _ rfl ho6 _ _ 1 1 [.string x2] rfl hr6 (by intro u hu; obtain rfl := List.mem_singleton.1 hu; rfl) (by unfold maxLen; omega) (by omega) hb6.size ?_)
      intro A4 c4 w4 ho4 hb4 hg4 i5 i6
      go_wp2_with fail
      refine ⟨⟨k + 1, A4, c4, by go_num, rfl, h1, ?_, hB6.grown hg4 hne, hb6.trans hb4⟩, by simp [intOf]; omega⟩
      rw [hsucc.out, pc_append]
      exact ho4
    · have d1 : decide ((k : Int) < (en.length : Int)) = false := decide_eq_false (by omega)
      have d1' : ¬ (k : Int) < (en.length : Int) := by omega
      have hkl : k = (idsN en k).length := (idsN_length hk).symm
      have hke : Hid (idsN en k = en.map (·.id)) := by
        unfold Hid idsN
        rw [List.take_of_length_le (by omega)]
      have HK := Lib.hid hkl
      clear hkl
      obtain ⟨cc0, cc1, cc2, cc3, cc4, cc5, cc6, cc7, cc8, cc9⟩ := obj_cells hB
      have hb6 := hbel.alloc hbel.size (.cells #[.string tr] 9)
      have hB6 := hB.alloc (.cells #[.string tr] 9)
      have ho6 := hown.alloc (.cells #[.string tr] 9)
      have hr6 := Rd.new1 wr 9 (.string tr)
      have hne : some g ≠ (Value.slice A3 k c3).ownBlock := fun e => own_ne ho6 hB6 (by decide) e.symm
      go_wp2_with (at_builtin; refine appVl rfl (.tmp 27) (.tmp 30) 41 9 _ 16 rfl Try.underlying41 info_str rfl w.heap.size _ k _ rfl ho6 _ _ 1 1 [.string tr] rfl hr6 (by intro u hu; obtain rfl := List.mem_singleton.1 hu; rfl) (by unfold maxLen; omega) (by omega) hb6.size ?_)
      intro A4 c4 w4 ho4 hb4 hg4 i5 i6
      have hpa := (parsB_parts (check3_parts rfl HC.out).2.1).2
      simp only at hpa
      have hB7 := hB6.grown hg4 hne
      have hb7 := hb6.trans hb4
      have hp7 := hp.below hb7
      obtain ⟨dd0, dd1, dd2, dd3, dd4, dd5, dd6, dd7, dd8, dd9⟩ := obj_cells hB7
      go_wp2_with (at_builtin; refine appVl rfl (.tmp 32) (.tmp 34) 41 9 _ 16 rfl Try.underlying41 info_str rfl w.heap.size _ (k + 1) _ rfl ho4 _ Ap pa.length cp (pc pa) rfl hp7 (pc_one _) (by unfold maxLen; omega) (by omega) hb7.size ?_)
      intro A5 c5 w5 ho5 hb5 hg5 i7 i8
      have hne8 : some g ≠ (Value.slice A4 (k + 1) c4).ownBlock := fun e => own_ne ho4 hB7 (by decide) e.symm
      obtain ⟨ee0, ee1, ee2, ee3, ee4, ee5, ee6, ee7, ee8, ee9⟩ := obj_cells (hB7.grown hg5 hne8)
      go_wp2_with fail
      go_ret
      have e1 : idsN en k = [] := by rw [hke.out, HE.out]; rfl
      have e2 : k = 0 := by rw [HK.out, e1]; rfl
      subst e2
      rw [e1] at ho5
      have e : 0 + 1 + pa.length = (tr :: pa).length := by rw [List.length_cons]; omega
      rw [e] at ho5 ⊢
      exact ⟨tr :: pa, A5, c5, rfl, rfl, ho5, hb7.trans hb5⟩

set_option maxRecDepth 100000 in
set_option maxHeartbeats 4000000 in
theorem refLinks4_calls (Ad : Option Addr) (d : List UInt8) (cd : Nat) (Ae : Option Addr) (en : List Ent) (ce : Nat) (tr : ByteArray) (Ap : Option Addr) (pa : List ByteArray) (cp : Nat) (ta na wh : ByteArray) (st : Int) (te : ByteArray) (w : World) (hd : Rd w w.heap.size 1 Ad d.length (bc d)) (he : Rd w w.heap.size 3 Ae en.length (ec en)) (hp : Rd w w.heap.size 1 Ap pa.length (pc pa)) (hel : en.length ≤ 140737488355328) (hpl : pa.length ≤ 140737488355328) (hns : Hid (∀ e ∈ en, e.name.size ≤ maxLen)) (HC : Hid (checkB geS (⟨4, d, en, tr, pa, ta, na, wh, st, te⟩ : Go.Dol.Obj) = true)) :
    Calls Try.prog 48 #[.agg #[.int .i64 4, .slice Ad d.length cd, .slice Ae en.length ce, .string tr, .slice Ap pa.length cp, .string ta, .string na, .string wh, .int .i64 st, .string te]] w (RetL w.heap.size w (linksO (⟨4, d, en, tr, pa, ta, na, wh, st, te⟩ : Go.Dol.Obj))) := by
  have hb0 : Below w.heap.size w (w.alloc (.cells #[.int .i64 4, .slice Ad d.length cd, .slice Ae en.length ce, .string tr, .slice Ap pa.length cp, .string ta, .string na, .string wh, .int .i64 st, .string te] 43)) := (Below.refl _ _).alloc (Nat.le_refl _) _
  have hB := Blk.new w 43 (ocells 4 (.slice Ad d.length cd) (.slice Ae en.length ce) tr (.slice Ap pa.length cp) ta na wh st te)
  have hd0 := hd.alive hb0
  have he0 := he.alive hb0
  have hp0 := hp.alive hb0
  have hEC : Hid (errC (checkB geS (⟨4, d, en, tr, pa, ta, na, wh, st, te⟩ : Go.Dol.Obj)) = 0) := Lib.hid (by rw [HC.out]; rfl)
  go_enter Try.func48, Try.ntmps48
  go_wp2_with fail
  refine (refCheck_calls 4 Ad d cd Ae en ce tr Ap pa cp ta na wh st te _ he0 hp0 hel hpl hns).mono ?_
  rintro e w1 ⟨rfl, hb1⟩
  rw [hEC.out]
  have HE : Hid (en = []) := Lib.hid (ents_none HC.out (fun h => by cases h))
  have hes : en.length ≤ 4096 := entsO_small HC.out
  have hB1 := hB.below hb1 hB.lt
  have hbw := hb0.next hb1
  have hp1 := hp0.alive hb1
  go_wp2_with fail
  obtain ⟨g, hg⟩ : ∃ g, g = w.heap.size := ⟨_, rfl⟩
  rw [← hg] at hB1 ⊢
  have HG := Lib.hid hg
  clear hg hB hb0 hd0 he0 hp0 hb1 hEC
  rw [HG.out]
  rw [← HG.out]
  go_loopw [3, 4] (fun b i wr => RLinkRel g (ocells 4 (.slice Ad d.length cd) (.slice Ae en.length ce) tr (.slice Ap pa.length cp) ta na wh st te) en w b i wr) (fun _ i _ => en.length - (intOf i).toNat)
  case atStart => exact ⟨0, none, 0, rfl, rfl, Nat.zero_le _, World.ownsRow_nil _ _ _ _, hB1, hbw⟩
  case round =>
    clear hB1 hbw
    obtain ⟨k, A3, c3, rfl, rfl, hk, hown, hB, hbel⟩ := hrel
    have f1 : IntKind.i64.wrap ((k : Int) + 1) = (k : Int) + 1 := IntWalk.i64_in _ (by omega)
    by_cases h1 : k < en.length
    · have d1 : decide ((k : Int) < (en.length : Int)) = true := decide_eq_true (by omega)
      have d1' : (k : Int) < (en.length : Int) := by omega
      have hk0 : (0 : Int) ≤ (k : Int) := by omega
      have hlen1 : en.length ≤ 9223372036854775807 := by omega
      have hrw := he.below hbel
      obtain ⟨bb, off, rfl, hbb, hcell⟩ := hrw.at_ (by omega)
      obtain ⟨p0, p1, p2⟩ := ec_get h1
      have q2 : wr.cell? ⟨bb, off + k * 3 + 2, none⟩ = _ := hcell _ _ p2
      have hsucc := Lib.hid (idsN_succ h1)
      obtain ⟨x, hx⟩ : ∃ x, x = en[k] := ⟨_, rfl⟩
      rw [← hx] at q2 hsucc
      obtain ⟨x0, x1, x2⟩ := x
      simp only at q2
      have hb6 := hbel.alloc hbel.size (.cells #[.string x2] 9)
      have hB6 := hB.alloc (.cells #[.string x2] 9)
      have ho6 := hown.alloc (.cells #[.string x2] 9)
      have hr6 := Rd.new1 wr 9 (.string x2)
      have hne : some g ≠ (Value.slice A3 k c3).ownBlock := fun e => own_ne ho6 hB6 (by decide) e.symm
      obtain ⟨cc0, cc1, cc2, cc3, cc4, cc5, cc6, cc7, cc8, cc9⟩ := obj_cells hB
      clear hx hcell p0 p1 p2
      go_wp2_with (at_builtin; refine appVl rfl (.tmp 15) (.tmp 22) 41 9 _ 16 rfl Try.underlying41 info_str rfl w.heap.size _ k _ rfl ho6 _ _ 1 1 [.string x2] rfl hr6 (by intro u hu; obtain rfl := List.mem_singleton.1 hu; rfl) (by unfold maxLen; omega) (by omega) hb6.size ?_)
      intro A4 c4 w4 ho4 hb4 hg4 i5 i6
      go_wp2_with fail
      refine ⟨⟨k + 1, A4, c4, by go_num, rfl, h1, ?_, hB6.grown hg4 hne, hb6.trans hb4⟩, by simp [intOf]; omega⟩
      rw [hsucc.out, pc_append]
      exact ho4
    · have d1 : decide ((k : Int) < (en.length : Int)) = false := decide_eq_false (by omega)
      have d1' : ¬ (k : Int) < (en.length : Int) := by omega
      have hkl : k = (idsN en k).length := (idsN_length hk).symm
      have hke : Hid (idsN en k = en.map (·.id)) := by
        unfold Hid idsN
        rw [List.take_of_length_le (by omega)]
      have HK := Lib.hid hkl
      clear hkl
      obtain ⟨cc0, cc1, cc2, cc3, cc4, cc5, cc6, cc7, cc8, cc9⟩ := obj_cells hB
      have hb6 := hbel.alloc hbel.size (.cells #[.string ta] 9)
      have hB6 := hB.alloc (.cells #[.string ta] 9)
      have ho6 := hown.alloc (.cells #[.string ta] 9)
      have hr6 := Rd.new1 wr 9 (.string ta)
      have hne : some g ≠ (Value.slice A3 k c3).ownBlock := fun e => own_ne ho6 hB6 (by decide) e.symm
      go_wp2_with (at_builtin; refine appVl rfl (.tmp 39) (.tmp 42) 41 9 _ 16 rfl Try.underlying41 info_str rfl w.heap.size _ k _ rfl ho6 _ _ 1 1 [.string ta] rfl hr6 (by intro u hu; obtain rfl := List.mem_singleton.1 hu; rfl) (by unfold maxLen; omega) (by omega) hb6.size ?_)
      intro A4 c4 w4 ho4 hb4 hg4 i5 i6
      go_wp2_with fail
      go_ret
      have e1 : idsN en k = [] := by rw [hke.out, HE.out]; rfl
      have e2 : k = 0 := by rw [HK.out, e1]; rfl
      subst e2
      rw [e1] at ho4
      exact ⟨[ta], A4, c4, rfl, rfl, ho4, hb6.trans hb4⟩

theorem refLinks_calls (k : Int) (Ad : Option Addr) (d : List UInt8) (cd : Nat) (Ae : Option Addr) (en : List Ent) (ce : Nat) (tr : ByteArray) (Ap : Option Addr) (pa : List ByteArray) (cp : Nat) (ta na wh : ByteArray) (st : Int) (te : ByteArray) (w : World) (hd : Rd w w.heap.size 1 Ad d.length (bc d)) (he : Rd w w.heap.size 3 Ae en.length (ec en)) (hp : Rd w w.heap.size 1 Ap pa.length (pc pa)) (hel : en.length ≤ 140737488355328) (hpl : pa.length ≤ 140737488355328) (hns : Hid (∀ e ∈ en, e.name.size ≤ maxLen)) :
    Calls Try.prog 48 #[.agg #[.int .i64 k, .slice Ad d.length cd, .slice Ae en.length ce, .string tr, .slice Ap pa.length cp, .string ta, .string na, .string wh, .int .i64 st, .string te]] w (RetL w.heap.size w (linksOf (⟨k, d, en, tr, pa, ta, na, wh, st, te⟩ : Go.Dol.Obj))) := by
  cases hc : checkB geS (⟨k, d, en, tr, pa, ta, na, wh, st, te⟩ : Go.Dol.Obj) with
  | false =>
    rw [show linksOf (⟨k, d, en, tr, pa, ta, na, wh, st, te⟩ : Go.Dol.Obj) = [] by unfold linksOf; rw [hc]; rfl]
    refine (refLinks_wrong k Ad d cd Ae en ce tr Ap pa cp ta na wh st te w hd he hp hel hpl hns (Lib.hid hc)).mono ?_
    rintro e w' ⟨rfl, hb⟩
    exact ⟨[], none, 0, rfl, rfl, World.ownsRow_nil _ _ _ _, hb⟩
  | true =>
    rw [show linksOf (⟨k, d, en, tr, pa, ta, na, wh, st, te⟩ : Go.Dol.Obj) = linksO (⟨k, d, en, tr, pa, ta, na, wh, st, te⟩ : Go.Dol.Obj) by unfold linksOf; rw [if_pos hc]]
    rcases check_kind hc with h | h | h | h
    · have h' : k = 1 := h
      subst h'
      exact refLinks1_calls Ad d cd Ae en ce tr Ap pa cp ta na wh st te w hd he hp hel hpl hns (Lib.hid hc)
    · have h' : k = 2 := h
      subst h'
      exact refLinks2_calls Ad d cd Ae en ce tr Ap pa cp ta na wh st te w hd he hp hel hpl hns (Lib.hid hc)
    · have h' : k = 3 := h
      subst h'
      exact refLinks3_calls Ad d cd Ae en ce tr Ap pa cp ta na wh st te w hd he hp hel hpl hns (Lib.hid hc)
    · have h' : k = 4 := h
      subst h'
      exact refLinks4_calls Ad d cd Ae en ce tr Ap pa cp ta na wh st te w hd he hp hel hpl hns (Lib.hid hc)

end Go.Proofs.Ytcefbhmmijmefaa
