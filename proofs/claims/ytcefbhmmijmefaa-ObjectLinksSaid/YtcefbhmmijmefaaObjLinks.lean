/- The law ObjectLinks: an object that may be names as many ids as it has entries, or a tree and parents, or a target; each is one. Conditions: lengths below 2^47. -/
import Derived.Test.YtcefbhmmijmefaaObjKinds
import Derived.Test.YtcefbhmmijmefaaObj13
namespace Go.Dol
def wantO (o : Obj) : Nat := if o.kind = 2 then o.ents.length else if o.kind = 3 then 1 + o.pars.length else if o.kind = 4 then 1 else 0
end Go.Dol
namespace Go.Proofs.Ytcefbhmmijmefaa
open Go.RowKit Go.Dol
set_option linter.unusedVariables false

theorem links_want (o : Go.Dol.Obj) : (linksO o).length = wantO o := by
  unfold linksO wantO
  split
  · simp
  · split
    · simp; omega
    · split <;> rfl
theorem links_ids {o : Go.Dol.Obj} (h : checkB geS o = true) : ∀ p ∈ linksO o, p.size = 32 := by
  intro p hp
  unfold linksO at hp
  rcases check_kind h with e | e | e | e
  · rw [if_neg (by omega), if_neg (by omega), if_neg (by omega)] at hp
    cases hp
  · rw [if_pos e] at hp
    obtain ⟨x, hx, rfl⟩ := List.mem_map.1 hp
    exact (ent_mem (entsB_parts (check2_parts e h)).1 x hx).2
  · rw [if_neg (by omega), if_pos e] at hp
    obtain ⟨h1, h2, _⟩ := check3_parts e h
    rcases List.mem_cons.1 hp with rfl | hp
    · exact h1
    · exact par_mem (parsB_parts h2).1 p hp
  · rw [if_neg (by omega), if_neg (by omega), if_pos e] at hp
    rw [List.mem_singleton.1 hp]
    exact (check4_parts e h).1
theorem links_some {o : Go.Dol.Obj} (h : checkB geS o = true) : linksOf o = linksO o := by
  unfold linksOf
  rw [if_pos h]

set_option maxRecDepth 100000 in
set_option maxHeartbeats 4000000 in
theorem linksl_wrong (k : Int) (Ad : Option Addr) (d : List UInt8) (cd : Nat) (Ae : Option Addr) (en : List Ent) (ce : Nat) (tr : ByteArray) (Ap : Option Addr) (pa : List ByteArray) (cp : Nat) (ta na wh : ByteArray) (st : Int) (te : ByteArray) (w : World) (hd : Rd w w.heap.size 1 Ad d.length (bc d)) (he : Rd w w.heap.size 3 Ae en.length (ec en)) (hp : Rd w w.heap.size 1 Ap pa.length (pc pa)) (hel : en.length ≤ 140737488355328) (hpl : pa.length ≤ 140737488355328) (hsz : Hid (∀ p ∈ pa, p.size ≤ maxLen)) (HC : Hid (checkB geS ⟨k, d, en, tr, pa, ta, na, wh, st, te⟩ = false)) :
    Calls Try.prog 11 #[.agg #[.int .i64 k, .slice Ad d.length cd, .slice Ae en.length ce, .string tr, .slice Ap pa.length cp, .string ta, .string na, .string wh, .int .i64 st, .string te]] w fun e w' => e = .returned (.bool true) ∧ Below w.heap.size w w' := by
  have hEC : Hid (errC (checkB geS ⟨k, d, en, tr, pa, ta, na, wh, st, te⟩) = 1) := Lib.hid (by rw [HC.out]; rfl)
  have hb0 : Below w.heap.size w (w.alloc (.cells #[.int .i64 k, .slice Ad d.length cd, .slice Ae en.length ce, .string tr, .slice Ap pa.length cp, .string ta, .string na, .string wh, .int .i64 st, .string te] 43)) := (Below.refl _ _).alloc (Nat.le_refl _) _
  have hB := Blk.new w 43 (ocells k (.slice Ad d.length cd) (.slice Ae en.length ce) tr (.slice Ap pa.length cp) ta na wh st te)
  go_enter Try.func11, Try.ntmps11
  go_wp2_with fail
  refine (awake_calls _).mono ?_
  rintro e w1 ⟨rfl, hb1⟩
  have hB1 := hB.below hb1 hB.lt
  have hbw := hb0.next hb1
  obtain ⟨c0, c1, c2, c3, c4, c5, c6, c7, c8, c9⟩ := obj_cells hB1
  have hd1 := hd.alive hbw
  have he1 := he.alive hbw
  have hp1 := hp.alive hbw
  go_wp2_with fail
  refine (Links_wrong k Ad d cd Ae en ce tr Ap pa cp ta na wh st te w1 hd1 he1 hp1 hel hpl hsz HC).mono ?_
  rintro e w2 ⟨rfl, hb2⟩
  have hB2 := hB1.below hb2 hB1.lt
  obtain ⟨b0, b1, b2, b3, b4, b5, b6, b7, b8, b9⟩ := obj_cells hB2
  have hd2 := hd1.alive hb2
  have he2 := he1.alive hb2
  have hp2 := hp1.alive hb2
  go_wp2_with fail
  refine (Check_calls k Ad d cd Ae en ce tr Ap pa cp ta na wh st te w2 hd2 he2 hp2 hel hpl hsz).mono ?_
  rintro e w3 ⟨rfl, hb3⟩
  rw [hEC.out]
  go_wp2_with fail
  go_ret
  exact ⟨rfl, (hbw.next hb2).next hb3⟩

set_option maxRecDepth 100000 in
set_option maxHeartbeats 4000000 in
theorem linksl_1 (Ad : Option Addr) (d : List UInt8) (cd : Nat) (Ae : Option Addr) (en : List Ent) (ce : Nat) (tr : ByteArray) (Ap : Option Addr) (pa : List ByteArray) (cp : Nat) (ta na wh : ByteArray) (st : Int) (te : ByteArray) (w : World) (hd : Rd w w.heap.size 1 Ad d.length (bc d)) (he : Rd w w.heap.size 3 Ae en.length (ec en)) (hp : Rd w w.heap.size 1 Ap pa.length (pc pa)) (hel : en.length ≤ 140737488355328) (hpl : pa.length ≤ 140737488355328) (hsz : Hid (∀ p ∈ pa, p.size ≤ maxLen)) (HC : Hid (checkB geS ⟨1, d, en, tr, pa, ta, na, wh, st, te⟩ = true)) :
    Calls Try.prog 11 #[.agg #[.int .i64 1, .slice Ad d.length cd, .slice Ae en.length ce, .string tr, .slice Ap pa.length cp, .string ta, .string na, .string wh, .int .i64 st, .string te]] w fun e w' => e = .returned (.bool true) ∧ Below w.heap.size w w' := by
  have hEC : Hid (errC (checkB geS ⟨1, d, en, tr, pa, ta, na, wh, st, te⟩) = 0) := Lib.hid (by rw [HC.out]; rfl)
  have hb0 : Below w.heap.size w (w.alloc (.cells #[.int .i64 1, .slice Ad d.length cd, .slice Ae en.length ce, .string tr, .slice Ap pa.length cp, .string ta, .string na, .string wh, .int .i64 st, .string te] 43)) := (Below.refl _ _).alloc (Nat.le_refl _) _
  have hB := Blk.new w 43 (ocells 1 (.slice Ad d.length cd) (.slice Ae en.length ce) tr (.slice Ap pa.length cp) ta na wh st te)
  go_enter Try.func11, Try.ntmps11
  go_wp2_with fail
  refine (awake_calls _).mono ?_
  rintro e w1 ⟨rfl, hb1⟩
  have hB1 := hB.below hb1 hB.lt
  have hbw := hb0.next hb1
  obtain ⟨c0, c1, c2, c3, c4, c5, c6, c7, c8, c9⟩ := obj_cells hB1
  have hd1 := hd.alive hbw
  have he1 := he.alive hbw
  have hp1 := hp.alive hbw
  go_wp2_with fail
  refine (Links_right 1 Ad d cd Ae en ce tr Ap pa cp ta na wh st te w1 hd1 he1 hp1 hel hpl hsz HC).mono ?_
  rintro e w2 ⟨l, A, c, el, rfl, ho, hb2⟩
  have hB2 := hB1.below hb2 hB1.lt
  obtain ⟨b0, b1, b2, b3, b4, b5, b6, b7, b8, b9⟩ := obj_cells hB2
  have hd2 := hd1.alive hb2
  have he2 := he1.alive hb2
  have hp2 := hp1.alive hb2
  have hr2 := Rd.of_own ho
  have hlen : (l.length : Int) = 0 := by
    rw [el.out, links_want]
    simp [wantO]
  have hid : Hid (∀ p ∈ l, p.size = 32) := by
    unfold Hid
    rw [el.out]
    exact links_ids HC.out
  have hf : IntKind.i64.wrap (1 + (pa.length : Int)) = 1 + (pa.length : Int) := IntWalk.i64_in _ (by omega)
  have hll : l.length ≤ 140737488355329 := by omega
  have dlen : ((l.length : Int) == 0) = true := beq_iff_eq.2 hlen
  have HL := Lib.hid hlen
  clear hlen ho
  go_wp2_with fail
  refine (Check_calls 1 Ad d cd Ae en ce tr Ap pa cp ta na wh st te w2 hd2 he2 hp2 hel hpl hsz).mono ?_
  rintro e w3 ⟨rfl, hb3⟩
  rw [hEC.out]
  have hB3 := hB2.below hb3 hB2.lt
  have hr3 := hr2.alive hb3
  have hbe := (hbw.next hb2).next hb3
  obtain ⟨a0, a1, a2, a3, a4, a5, a6, a7, a8, a9⟩ := obj_cells hB3
  clear hB hB1 hB2 hB3 hb0 hb1 hb2 hb3 hbw hd hd1 hd2 he he1 he2 hp hp1 hp2 hr2 c0 c1 c2 c3 c4 c5 c6 c7 c8 c9 b0 b1 b2 b3 b4 b5 b6 b7 b8 b9
  go_wp2_with fail
  clear a0 a1 a2 a3 a4 a5 a6 a7 a8 a9
  go_loopw [6] (fun i wr => wr = w3 ∧ ∃ k : Nat, i = .int .i64 k ∧ k ≤ l.length) (fun i _ => l.length - (intOf i).toNat)
  case atStart => exact ⟨rfl, 0, rfl, Nat.zero_le _⟩
  case round =>
    obtain ⟨rfl, k, rfl, hk⟩ := hrel
    have f1 : IntKind.i64.wrap ((k : Int) + 1) = (k : Int) + 1 := IntWalk.i64_in _ (by omega)
    by_cases h1 : k < l.length
    · have d1 : decide ((k : Int) < (l.length : Int)) = true := decide_eq_true (by omega)
      have d1' : (k : Int) < (l.length : Int) := by omega
      have hk0 : (0 : Int) ≤ (k : Int) := by omega
      have hlen1 : l.length ≤ 9223372036854775807 := by omega
      obtain ⟨bb, off, rfl, hbb, hcell⟩ := hr3.at_ (by omega)
      have q0 := hcell _ _ (pc_get h1)
      have hs := hid.out l[k] (List.getElem_mem h1)
      obtain ⟨p, hp⟩ : ∃ p, p = l[k] := ⟨_, rfl⟩
      rw [← hp] at q0 hs
      have dn : ((p.size : Int) != 32) = false := by rw [hs]; rfl
      clear hcell hp hs
      go_wp2_with fail
      exact ⟨⟨by first | trivial | rfl, k + 1, by go_num, h1⟩, by simp [intOf]; omega⟩
    · have d1 : decide ((k : Int) < (l.length : Int)) = false := decide_eq_false (by omega)
      have d1' : ¬ (k : Int) < (l.length : Int) := by omega
      go_wp2_with fail
      go_ret
      exact ⟨rfl, hbe⟩

set_option maxRecDepth 100000 in
set_option maxHeartbeats 4000000 in
theorem linksl_2 (Ad : Option Addr) (d : List UInt8) (cd : Nat) (Ae : Option Addr) (en : List Ent) (ce : Nat) (tr : ByteArray) (Ap : Option Addr) (pa : List ByteArray) (cp : Nat) (ta na wh : ByteArray) (st : Int) (te : ByteArray) (w : World) (hd : Rd w w.heap.size 1 Ad d.length (bc d)) (he : Rd w w.heap.size 3 Ae en.length (ec en)) (hp : Rd w w.heap.size 1 Ap pa.length (pc pa)) (hel : en.length ≤ 140737488355328) (hpl : pa.length ≤ 140737488355328) (hsz : Hid (∀ p ∈ pa, p.size ≤ maxLen)) (HC : Hid (checkB geS ⟨2, d, en, tr, pa, ta, na, wh, st, te⟩ = true)) :
    Calls Try.prog 11 #[.agg #[.int .i64 2, .slice Ad d.length cd, .slice Ae en.length ce, .string tr, .slice Ap pa.length cp, .string ta, .string na, .string wh, .int .i64 st, .string te]] w fun e w' => e = .returned (.bool true) ∧ Below w.heap.size w w' := by
  have hEC : Hid (errC (checkB geS ⟨2, d, en, tr, pa, ta, na, wh, st, te⟩) = 0) := Lib.hid (by rw [HC.out]; rfl)
  have hb0 : Below w.heap.size w (w.alloc (.cells #[.int .i64 2, .slice Ad d.length cd, .slice Ae en.length ce, .string tr, .slice Ap pa.length cp, .string ta, .string na, .string wh, .int .i64 st, .string te] 43)) := (Below.refl _ _).alloc (Nat.le_refl _) _
  have hB := Blk.new w 43 (ocells 2 (.slice Ad d.length cd) (.slice Ae en.length ce) tr (.slice Ap pa.length cp) ta na wh st te)
  go_enter Try.func11, Try.ntmps11
  go_wp2_with fail
  refine (awake_calls _).mono ?_
  rintro e w1 ⟨rfl, hb1⟩
  have hB1 := hB.below hb1 hB.lt
  have hbw := hb0.next hb1
  obtain ⟨c0, c1, c2, c3, c4, c5, c6, c7, c8, c9⟩ := obj_cells hB1
  have hd1 := hd.alive hbw
  have he1 := he.alive hbw
  have hp1 := hp.alive hbw
  go_wp2_with fail
  refine (Links_right 2 Ad d cd Ae en ce tr Ap pa cp ta na wh st te w1 hd1 he1 hp1 hel hpl hsz HC).mono ?_
  rintro e w2 ⟨l, A, c, el, rfl, ho, hb2⟩
  have hB2 := hB1.below hb2 hB1.lt
  obtain ⟨b0, b1, b2, b3, b4, b5, b6, b7, b8, b9⟩ := obj_cells hB2
  have hd2 := hd1.alive hb2
  have he2 := he1.alive hb2
  have hp2 := hp1.alive hb2
  have hr2 := Rd.of_own ho
  have hlen : (l.length : Int) = (en.length : Int) := by
    rw [el.out, links_want]
    simp [wantO]
  have hid : Hid (∀ p ∈ l, p.size = 32) := by
    unfold Hid
    rw [el.out]
    exact links_ids HC.out
  have hf : IntKind.i64.wrap (1 + (pa.length : Int)) = 1 + (pa.length : Int) := IntWalk.i64_in _ (by omega)
  have hll : l.length ≤ 140737488355329 := by omega
  have dlen : ((l.length : Int) == (en.length : Int)) = true := beq_iff_eq.2 hlen
  have HL := Lib.hid hlen
  clear hlen ho
  go_wp2_with fail
  refine (Check_calls 2 Ad d cd Ae en ce tr Ap pa cp ta na wh st te w2 hd2 he2 hp2 hel hpl hsz).mono ?_
  rintro e w3 ⟨rfl, hb3⟩
  rw [hEC.out]
  have hB3 := hB2.below hb3 hB2.lt
  have hr3 := hr2.alive hb3
  have hbe := (hbw.next hb2).next hb3
  obtain ⟨a0, a1, a2, a3, a4, a5, a6, a7, a8, a9⟩ := obj_cells hB3
  clear hB hB1 hB2 hB3 hb0 hb1 hb2 hb3 hbw hd hd1 hd2 he he1 he2 hp hp1 hp2 hr2 c0 c1 c2 c3 c4 c5 c6 c7 c8 c9 b0 b1 b2 b3 b4 b5 b6 b7 b8 b9
  go_wp2_with fail
  clear a0 a1 a2 a3 a4 a5 a6 a7 a8 a9
  go_loopw [6] (fun i wr => wr = w3 ∧ ∃ k : Nat, i = .int .i64 k ∧ k ≤ l.length) (fun i _ => l.length - (intOf i).toNat)
  case atStart => exact ⟨rfl, 0, rfl, Nat.zero_le _⟩
  case round =>
    obtain ⟨rfl, k, rfl, hk⟩ := hrel
    have f1 : IntKind.i64.wrap ((k : Int) + 1) = (k : Int) + 1 := IntWalk.i64_in _ (by omega)
    by_cases h1 : k < l.length
    · have d1 : decide ((k : Int) < (l.length : Int)) = true := decide_eq_true (by omega)
      have d1' : (k : Int) < (l.length : Int) := by omega
      have hk0 : (0 : Int) ≤ (k : Int) := by omega
      have hlen1 : l.length ≤ 9223372036854775807 := by omega
      obtain ⟨bb, off, rfl, hbb, hcell⟩ := hr3.at_ (by omega)
      have q0 := hcell _ _ (pc_get h1)
      have hs := hid.out l[k] (List.getElem_mem h1)
      obtain ⟨p, hp⟩ : ∃ p, p = l[k] := ⟨_, rfl⟩
      rw [← hp] at q0 hs
      have dn : ((p.size : Int) != 32) = false := by rw [hs]; rfl
      clear hcell hp hs
      go_wp2_with fail
      exact ⟨⟨by first | trivial | rfl, k + 1, by go_num, h1⟩, by simp [intOf]; omega⟩
    · have d1 : decide ((k : Int) < (l.length : Int)) = false := decide_eq_false (by omega)
      have d1' : ¬ (k : Int) < (l.length : Int) := by omega
      go_wp2_with fail
      go_ret
      exact ⟨rfl, hbe⟩

set_option maxRecDepth 100000 in
set_option maxHeartbeats 4000000 in
theorem linksl_3 (Ad : Option Addr) (d : List UInt8) (cd : Nat) (Ae : Option Addr) (en : List Ent) (ce : Nat) (tr : ByteArray) (Ap : Option Addr) (pa : List ByteArray) (cp : Nat) (ta na wh : ByteArray) (st : Int) (te : ByteArray) (w : World) (hd : Rd w w.heap.size 1 Ad d.length (bc d)) (he : Rd w w.heap.size 3 Ae en.length (ec en)) (hp : Rd w w.heap.size 1 Ap pa.length (pc pa)) (hel : en.length ≤ 140737488355328) (hpl : pa.length ≤ 140737488355328) (hsz : Hid (∀ p ∈ pa, p.size ≤ maxLen)) (HC : Hid (checkB geS ⟨3, d, en, tr, pa, ta, na, wh, st, te⟩ = true)) :
    Calls Try.prog 11 #[.agg #[.int .i64 3, .slice Ad d.length cd, .slice Ae en.length ce, .string tr, .slice Ap pa.length cp, .string ta, .string na, .string wh, .int .i64 st, .string te]] w fun e w' => e = .returned (.bool true) ∧ Below w.heap.size w w' := by
  have hEC : Hid (errC (checkB geS ⟨3, d, en, tr, pa, ta, na, wh, st, te⟩) = 0) := Lib.hid (by rw [HC.out]; rfl)
  have hb0 : Below w.heap.size w (w.alloc (.cells #[.int .i64 3, .slice Ad d.length cd, .slice Ae en.length ce, .string tr, .slice Ap pa.length cp, .string ta, .string na, .string wh, .int .i64 st, .string te] 43)) := (Below.refl _ _).alloc (Nat.le_refl _) _
  have hB := Blk.new w 43 (ocells 3 (.slice Ad d.length cd) (.slice Ae en.length ce) tr (.slice Ap pa.length cp) ta na wh st te)
  go_enter Try.func11, Try.ntmps11
  go_wp2_with fail
  refine (awake_calls _).mono ?_
  rintro e w1 ⟨rfl, hb1⟩
  have hB1 := hB.below hb1 hB.lt
  have hbw := hb0.next hb1
  obtain ⟨c0, c1, c2, c3, c4, c5, c6, c7, c8, c9⟩ := obj_cells hB1
  have hd1 := hd.alive hbw
  have he1 := he.alive hbw
  have hp1 := hp.alive hbw
  go_wp2_with fail
  refine (Links_right 3 Ad d cd Ae en ce tr Ap pa cp ta na wh st te w1 hd1 he1 hp1 hel hpl hsz HC).mono ?_
  rintro e w2 ⟨l, A, c, el, rfl, ho, hb2⟩
  have hB2 := hB1.below hb2 hB1.lt
  obtain ⟨b0, b1, b2, b3, b4, b5, b6, b7, b8, b9⟩ := obj_cells hB2
  have hd2 := hd1.alive hb2
  have he2 := he1.alive hb2
  have hp2 := hp1.alive hb2
  have hr2 := Rd.of_own ho
  have hlen : (l.length : Int) = (1 + (pa.length : Int)) := by
    rw [el.out, links_want]
    simp [wantO]
  have hid : Hid (∀ p ∈ l, p.size = 32) := by
    unfold Hid
    rw [el.out]
    exact links_ids HC.out
  have hf : IntKind.i64.wrap (1 + (pa.length : Int)) = 1 + (pa.length : Int) := IntWalk.i64_in _ (by omega)
  have hll : l.length ≤ 140737488355329 := by omega
  have dlen : ((l.length : Int) == (1 + (pa.length : Int))) = true := beq_iff_eq.2 hlen
  have HL := Lib.hid hlen
  clear hlen ho
  go_wp2_with fail
  refine (Check_calls 3 Ad d cd Ae en ce tr Ap pa cp ta na wh st te w2 hd2 he2 hp2 hel hpl hsz).mono ?_
  rintro e w3 ⟨rfl, hb3⟩
  rw [hEC.out]
  have hB3 := hB2.below hb3 hB2.lt
  have hr3 := hr2.alive hb3
  have hbe := (hbw.next hb2).next hb3
  obtain ⟨a0, a1, a2, a3, a4, a5, a6, a7, a8, a9⟩ := obj_cells hB3
  clear hB hB1 hB2 hB3 hb0 hb1 hb2 hb3 hbw hd hd1 hd2 he he1 he2 hp hp1 hp2 hr2 c0 c1 c2 c3 c4 c5 c6 c7 c8 c9 b0 b1 b2 b3 b4 b5 b6 b7 b8 b9
  go_wp2_with fail
  clear a0 a1 a2 a3 a4 a5 a6 a7 a8 a9
  go_loopw [6] (fun i wr => wr = w3 ∧ ∃ k : Nat, i = .int .i64 k ∧ k ≤ l.length) (fun i _ => l.length - (intOf i).toNat)
  case atStart => exact ⟨rfl, 0, rfl, Nat.zero_le _⟩
  case round =>
    obtain ⟨rfl, k, rfl, hk⟩ := hrel
    have f1 : IntKind.i64.wrap ((k : Int) + 1) = (k : Int) + 1 := IntWalk.i64_in _ (by omega)
    by_cases h1 : k < l.length
    · have d1 : decide ((k : Int) < (l.length : Int)) = true := decide_eq_true (by omega)
      have d1' : (k : Int) < (l.length : Int) := by omega
      have hk0 : (0 : Int) ≤ (k : Int) := by omega
      have hlen1 : l.length ≤ 9223372036854775807 := by omega
      obtain ⟨bb, off, rfl, hbb, hcell⟩ := hr3.at_ (by omega)
      have q0 := hcell _ _ (pc_get h1)
      have hs := hid.out l[k] (List.getElem_mem h1)
      obtain ⟨p, hp⟩ : ∃ p, p = l[k] := ⟨_, rfl⟩
      rw [← hp] at q0 hs
      have dn : ((p.size : Int) != 32) = false := by rw [hs]; rfl
      clear hcell hp hs
      go_wp2_with fail
      exact ⟨⟨by first | trivial | rfl, k + 1, by go_num, h1⟩, by simp [intOf]; omega⟩
    · have d1 : decide ((k : Int) < (l.length : Int)) = false := decide_eq_false (by omega)
      have d1' : ¬ (k : Int) < (l.length : Int) := by omega
      go_wp2_with fail
      go_ret
      exact ⟨rfl, hbe⟩

set_option maxRecDepth 100000 in
set_option maxHeartbeats 4000000 in
theorem linksl_4 (Ad : Option Addr) (d : List UInt8) (cd : Nat) (Ae : Option Addr) (en : List Ent) (ce : Nat) (tr : ByteArray) (Ap : Option Addr) (pa : List ByteArray) (cp : Nat) (ta na wh : ByteArray) (st : Int) (te : ByteArray) (w : World) (hd : Rd w w.heap.size 1 Ad d.length (bc d)) (he : Rd w w.heap.size 3 Ae en.length (ec en)) (hp : Rd w w.heap.size 1 Ap pa.length (pc pa)) (hel : en.length ≤ 140737488355328) (hpl : pa.length ≤ 140737488355328) (hsz : Hid (∀ p ∈ pa, p.size ≤ maxLen)) (HC : Hid (checkB geS ⟨4, d, en, tr, pa, ta, na, wh, st, te⟩ = true)) :
    Calls Try.prog 11 #[.agg #[.int .i64 4, .slice Ad d.length cd, .slice Ae en.length ce, .string tr, .slice Ap pa.length cp, .string ta, .string na, .string wh, .int .i64 st, .string te]] w fun e w' => e = .returned (.bool true) ∧ Below w.heap.size w w' := by
  have hEC : Hid (errC (checkB geS ⟨4, d, en, tr, pa, ta, na, wh, st, te⟩) = 0) := Lib.hid (by rw [HC.out]; rfl)
  have hb0 : Below w.heap.size w (w.alloc (.cells #[.int .i64 4, .slice Ad d.length cd, .slice Ae en.length ce, .string tr, .slice Ap pa.length cp, .string ta, .string na, .string wh, .int .i64 st, .string te] 43)) := (Below.refl _ _).alloc (Nat.le_refl _) _
  have hB := Blk.new w 43 (ocells 4 (.slice Ad d.length cd) (.slice Ae en.length ce) tr (.slice Ap pa.length cp) ta na wh st te)
  go_enter Try.func11, Try.ntmps11
  go_wp2_with fail
  refine (awake_calls _).mono ?_
  rintro e w1 ⟨rfl, hb1⟩
  have hB1 := hB.below hb1 hB.lt
  have hbw := hb0.next hb1
  obtain ⟨c0, c1, c2, c3, c4, c5, c6, c7, c8, c9⟩ := obj_cells hB1
  have hd1 := hd.alive hbw
  have he1 := he.alive hbw
  have hp1 := hp.alive hbw
  go_wp2_with fail
  refine (Links_right 4 Ad d cd Ae en ce tr Ap pa cp ta na wh st te w1 hd1 he1 hp1 hel hpl hsz HC).mono ?_
  rintro e w2 ⟨l, A, c, el, rfl, ho, hb2⟩
  have hB2 := hB1.below hb2 hB1.lt
  obtain ⟨b0, b1, b2, b3, b4, b5, b6, b7, b8, b9⟩ := obj_cells hB2
  have hd2 := hd1.alive hb2
  have he2 := he1.alive hb2
  have hp2 := hp1.alive hb2
  have hr2 := Rd.of_own ho
  have hlen : (l.length : Int) = 1 := by
    rw [el.out, links_want]
    simp [wantO]
  have hid : Hid (∀ p ∈ l, p.size = 32) := by
    unfold Hid
    rw [el.out]
    exact links_ids HC.out
  have hf : IntKind.i64.wrap (1 + (pa.length : Int)) = 1 + (pa.length : Int) := IntWalk.i64_in _ (by omega)
  have hll : l.length ≤ 140737488355329 := by omega
  have dlen : ((l.length : Int) == 1) = true := beq_iff_eq.2 hlen
  have HL := Lib.hid hlen
  clear hlen ho
  go_wp2_with fail
  refine (Check_calls 4 Ad d cd Ae en ce tr Ap pa cp ta na wh st te w2 hd2 he2 hp2 hel hpl hsz).mono ?_
  rintro e w3 ⟨rfl, hb3⟩
  rw [hEC.out]
  have hB3 := hB2.below hb3 hB2.lt
  have hr3 := hr2.alive hb3
  have hbe := (hbw.next hb2).next hb3
  obtain ⟨a0, a1, a2, a3, a4, a5, a6, a7, a8, a9⟩ := obj_cells hB3
  clear hB hB1 hB2 hB3 hb0 hb1 hb2 hb3 hbw hd hd1 hd2 he he1 he2 hp hp1 hp2 hr2 c0 c1 c2 c3 c4 c5 c6 c7 c8 c9 b0 b1 b2 b3 b4 b5 b6 b7 b8 b9
  go_wp2_with fail
  clear a0 a1 a2 a3 a4 a5 a6 a7 a8 a9
  go_loopw [6] (fun i wr => wr = w3 ∧ ∃ k : Nat, i = .int .i64 k ∧ k ≤ l.length) (fun i _ => l.length - (intOf i).toNat)
  case atStart => exact ⟨rfl, 0, rfl, Nat.zero_le _⟩
  case round =>
    obtain ⟨rfl, k, rfl, hk⟩ := hrel
    have f1 : IntKind.i64.wrap ((k : Int) + 1) = (k : Int) + 1 := IntWalk.i64_in _ (by omega)
    by_cases h1 : k < l.length
    · have d1 : decide ((k : Int) < (l.length : Int)) = true := decide_eq_true (by omega)
      have d1' : (k : Int) < (l.length : Int) := by omega
      have hk0 : (0 : Int) ≤ (k : Int) := by omega
      have hlen1 : l.length ≤ 9223372036854775807 := by omega
      obtain ⟨bb, off, rfl, hbb, hcell⟩ := hr3.at_ (by omega)
      have q0 := hcell _ _ (pc_get h1)
      have hs := hid.out l[k] (List.getElem_mem h1)
      obtain ⟨p, hp⟩ : ∃ p, p = l[k] := ⟨_, rfl⟩
      rw [← hp] at q0 hs
      have dn : ((p.size : Int) != 32) = false := by rw [hs]; rfl
      clear hcell hp hs
      go_wp2_with fail
      exact ⟨⟨by first | trivial | rfl, k + 1, by go_num, h1⟩, by simp [intOf]; omega⟩
    · have d1 : decide ((k : Int) < (l.length : Int)) = false := decide_eq_false (by omega)
      have d1' : ¬ (k : Int) < (l.length : Int) := by omega
      go_wp2_with fail
      go_ret
      exact ⟨rfl, hbe⟩

theorem objectLinks_walk (k : Int) (Ad : Option Addr) (d : List UInt8) (cd : Nat) (Ae : Option Addr) (en : List Ent) (ce : Nat) (tr : ByteArray) (Ap : Option Addr) (pa : List ByteArray) (cp : Nat) (ta na wh : ByteArray) (st : Int) (te : ByteArray) (w : World) (hd : Rd w w.heap.size 1 Ad d.length (bc d)) (he : Rd w w.heap.size 3 Ae en.length (ec en)) (hp : Rd w w.heap.size 1 Ap pa.length (pc pa)) (hel : en.length ≤ 140737488355328) (hpl : pa.length ≤ 140737488355328) (hsz : Hid (∀ p ∈ pa, p.size ≤ maxLen)) (wk : (Lit.int .i64 k).wf = true) (ws : (Lit.int .i64 st).wf = true) :
    Calls Try.prog 11 #[.agg #[.int .i64 k, .slice Ad d.length cd, .slice Ae en.length ce, .string tr, .slice Ap pa.length cp, .string ta, .string na, .string wh, .int .i64 st, .string te]] w fun e w' => e = .returned (.bool true) ∧ Below w.heap.size w w' := by
  cases hc : checkB geS ⟨k, d, en, tr, pa, ta, na, wh, st, te⟩ with
  | false => exact linksl_wrong k Ad d cd Ae en ce tr Ap pa cp ta na wh st te w hd he hp hel hpl hsz (Lib.hid hc)
  | true =>
    rcases check_kind hc with h | h | h | h
    · have h' : k = 1 := h
      subst h'
      exact linksl_1 Ad d cd Ae en ce tr Ap pa cp ta na wh st te w hd he hp hel hpl hsz (Lib.hid hc)
    · have h' : k = 2 := h
      subst h'
      exact linksl_2 Ad d cd Ae en ce tr Ap pa cp ta na wh st te w hd he hp hel hpl hsz (Lib.hid hc)
    · have h' : k = 3 := h
      subst h'
      exact linksl_3 Ad d cd Ae en ce tr Ap pa cp ta na wh st te w hd he hp hel hpl hsz (Lib.hid hc)
    · have h' : k = 4 := h
      subst h'
      exact linksl_4 Ad d cd Ae en ce tr Ap pa cp ta na wh st te w hd he hp hel hpl hsz (Lib.hid hc)
end Go.Proofs.Ytcefbhmmijmefaa
