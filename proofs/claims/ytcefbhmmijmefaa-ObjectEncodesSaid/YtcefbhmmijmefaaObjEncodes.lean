/- The law ObjectEncodes: which objects may be, their bytes, their ids and the ids that they name are what the document says. Conditions: lengths below 2^47. -/
import Derived.Test.YtcefbhmmijmefaaObj25
import Derived.Test.YtcefbhmmijmefaaObjRefId
import Derived.Test.YtcefbhmmijmefaaObjAwake
import Derived.BigQuiet
namespace Go.Proofs.Ytcefbhmmijmefaa
open Go.RowKit Go.Dol
set_option linter.unusedVariables false

theorem encodes_good_of {w : World} {o : Go.Dol.Obj} {e : Ending} {w' : World} (hc : checkB geS o = true) (h : RetEnc w o e w') : ∃ (l : List UInt8) (A : Option Addr) (c : Nat), Hid (l = encO o) ∧ e = .returned (.tuple #[.slice A l.length c, .int .i64 0]) ∧ Rd w' w'.heap.size 1 A l.length (bc l) ∧ Below w.heap.size w w' := by
  obtain ⟨hb, ⟨_, l, A, c, el, he, ho⟩ | ⟨hf, _⟩⟩ := h
  · exact ⟨l, A, c, el, he, Rd.of_own ho, hb⟩
  · rw [hc] at hf
    cases hf
theorem encodes_wrong_of {w : World} {o : Go.Dol.Obj} {e : Ending} {w' : World} (hc : checkB geS o = false) (h : RetEnc w o e w') : e = .returned (.tuple #[.slice none 0 0, .int .i64 1]) ∧ Below w.heap.size w w' := by
  obtain ⟨hb, ⟨hf, _⟩ | ⟨_, he⟩⟩ := h
  · rw [hc] at hf
    cases hf
  · exact ⟨he, hb⟩
theorem id_good_of {w : World} {o : Go.Dol.Obj} {e : Ending} {w' : World} (hc : checkB geS o = true) (h : RetId w o e w') : ∃ l : List UInt8, Hid (l = sumOf (encO o)) ∧ e = .returned (.tuple #[.string ⟨l.toArray⟩, .int .i64 0]) ∧ Below w.heap.size w w' := by
  obtain ⟨hb, ⟨_, l, el, he⟩ | ⟨hf, _⟩⟩ := h
  · exact ⟨l, el, he, hb⟩
  · rw [hc] at hf
    cases hf
theorem id_wrong_of {w : World} {o : Go.Dol.Obj} {e : Ending} {w' : World} (hc : checkB geS o = false) (h : RetId w o e w') : e = .returned (.tuple #[.string ⟨#[]⟩, .int .i64 1]) ∧ Below w.heap.size w w' := by
  obtain ⟨hb, ⟨hf, _⟩ | ⟨_, he⟩⟩ := h
  · rw [hc] at hf
    cases hf
  · exact ⟨he, hb⟩
theorem Same_nil (w : World) : Calls Try.prog 15 #[.slice none 0 0, .slice none 0 0] w fun e w' => e = .returned (.bool true) ∧ w = w' := by
  have h := Same_calls none [] 0 none [] 0 w w.heap.size w.heap.size Rd.nil Rd.nil (Lib.hid rfl)
  simpa only [List.length_nil] using h
theorem links_few {o : Go.Dol.Obj} : checkB geS o = true → (linksO o).length ≤ 140737488355328 := by
  intro h
  have h1 := entsO_small h
  unfold linksO
  rcases check_kind h with e | e | e | e
  · simp [e]
  · simp only [e, if_true, List.length_map]
    omega
  · have := (parsB_parts (check3_parts e h).2.1).2
    simp [e]
    omega
  · simp [e]
theorem linksOf_few (o : Go.Dol.Obj) : (linksOf o).length ≤ 140737488355328 := by
  unfold linksOf
  split
  · rename_i h
    exact links_few h
  · simp
theorem texts_same (A : Option Addr) (a : List ByteArray) (c : Nat) (A2 : Option Addr) (b : List ByteArray) (c2 : Nat) (w : World) (B B2 : Nat) (hr : Rd w B 1 A a.length (pc a)) (hr2 : Rd w B2 1 A2 b.length (pc b)) (ha : a.length ≤ 140737488355328) (hb : b.length ≤ 140737488355328) (hv : a = b) :
    Calls Try.prog 47 #[.slice A a.length c, .slice A2 b.length c2] w fun e w' => e = .returned (.bool true) ∧ ∃ n, w' = w.drewN n :=
  (SameTexts_calls A a c A2 b c2 w B B2 hr hr2 ha hb).mono fun e w' ⟨u, n, h1, h2, h3⟩ => ⟨by rw [h1, show u = true from h2.2 hv], n, h3⟩
def EncRel (g : Nat) (cs : List Value) (es : List Ent) (w : World) (i : Value) (wr : World) : Prop :=
  ∃ n : Nat, i = .int .i64 n ∧ n ≤ es.length ∧ Blk wr g 43 cs ∧ Below w.heap.size w wr
theorem part_is (s : ByteArray) (w : World) : Calls Try.prog 43 #[.string s] w fun e w' => e = .returned (.bool (partB s)) ∧ w' = w :=
  (Part_calls s w).mono fun e w' ⟨h1, h2⟩ => ⟨h1, h2.symm⟩
theorem refPart_same (s : ByteArray) (hs : s.size ≤ maxLen) (w : World) : Calls Try.prog 44 #[.string s] w fun e w' => e = .returned (.bool (partB s)) ∧ w' = w :=
  (refPart_calls s w hs).mono fun e w' ⟨h1, h2⟩ => ⟨h1, h2.symm⟩


set_option maxRecDepth 100000 in
set_option maxHeartbeats 8000000 in
theorem encodes_good (k : Int) (Ad : Option Addr) (d : List UInt8) (cd : Nat) (Ae : Option Addr) (en : List Ent) (ce : Nat) (tr : ByteArray) (Ap : Option Addr) (pa : List ByteArray) (cp : Nat) (ta na wh : ByteArray) (st : Int) (te : ByteArray) (w : World) (hd : Rd w w.heap.size 1 Ad d.length (bc d)) (he : Rd w w.heap.size 3 Ae en.length (ec en)) (hp : Rd w w.heap.size 1 Ap pa.length (pc pa)) (hel : en.length ≤ 140737488355328) (hpl : pa.length ≤ 140737488355328) (hsz : Hid (∀ p ∈ pa, p.size ≤ maxLen)) (hns : Hid (∀ e ∈ en, e.name.size ≤ maxLen)) (HC : Hid (checkB geS (⟨k, d, en, tr, pa, ta, na, wh, st, te⟩ : Go.Dol.Obj) = true)) :
    Calls Try.prog 13 #[.agg #[.int .i64 k, .slice Ad d.length cd, .slice Ae en.length ce, .string tr, .slice Ap pa.length cp, .string ta, .string na, .string wh, .int .i64 st, .string te]] w fun e w' => e = .returned (.bool true) ∧ Below w.heap.size w w' := by
  have hb0 : Below w.heap.size w (w.alloc (.cells #[.int .i64 k, .slice Ad d.length cd, .slice Ae en.length ce, .string tr, .slice Ap pa.length cp, .string ta, .string na, .string wh, .int .i64 st, .string te] 43)) := (Below.refl _ _).alloc (Nat.le_refl _) _
  have hB0 := Blk.new w 43 (ocells k (.slice Ad d.length cd) (.slice Ae en.length ce) tr (.slice Ap pa.length cp) ta na wh st te)
  go_enter Try.func13, Try.ntmps13
  go_wp2_with fail
  refine (awake_calls _).mono ?_
  rintro e w1 ⟨rfl, hb1⟩
  have hB1 := hB0.below hb1 hB0.lt
  have hbw := hb0.next hb1
  clear hB0 hb0 hb1
  go_wp2_with fail
  go_loopw [4] (fun i wr => EncRel w.heap.size (ocells k (.slice Ad d.length cd) (.slice Ae en.length ce) tr (.slice Ap pa.length cp) ta na wh st te) en w i wr) (fun i _ => en.length - (intOf i).toNat)
  case atStart => exact ⟨0, rfl, Nat.zero_le _, hB1, hbw⟩
  case round =>
    clear hB1 hbw
    obtain ⟨n, rfl, hn, hB, hbel⟩ := hrel
    have f1 : IntKind.i64.wrap ((n : Int) + 1) = (n : Int) + 1 := IntWalk.i64_in _ (by omega)
    by_cases h1 : n < en.length
    · have d1 : decide ((n : Int) < (en.length : Int)) = true := decide_eq_true (by omega)
      have d1' : (n : Int) < (en.length : Int) := by omega
      by_cases h2 : n < 100
      · have d2 : decide ((n : Int) < 100) = true := decide_eq_true (by omega)
        have d2' : (n : Int) < 100 := by omega
        have hn0 : (0 : Int) ≤ (n : Int) := by omega
        have hlen1 : en.length ≤ 9223372036854775807 := by omega
        have hrw := he.below hbel
        obtain ⟨bb, off, rfl, hbb, hcell⟩ := hrw.at_ (by omega)
        obtain ⟨p0, p1, p2⟩ := ec_get h1
        have q0 := hcell _ _ p0
        have hnm := Lib.hid (hns.out en[n] (List.getElem_mem h1))
        obtain ⟨x, hx⟩ : ∃ x, x = en[n] := ⟨_, rfl⟩
        rw [← hx] at q0 hnm
        obtain ⟨x0, x1, x2⟩ := x
        simp only at q0 hnm
        obtain ⟨b0, b1, b2, b3, b4, b5, b6, b7, b8, b9⟩ := obj_cells hB
        clear hx hcell p0 p1 p2
        go_wp2_with fail
        go_quiet ((first
          | (go_at_call 43; exact Calls.quiet_of_same (part_is x0 _))
          | (go_at_call 44; exact Calls.quiet_of_same (refPart_same x0 hnm.out _))))
        go_wp2_with fail
        exact ⟨⟨n + 1, by go_num, by omega, hB.drewN nq, hbel.drewN' nq⟩, by simp [intOf]; omega⟩
      · have d2 : decide ((n : Int) < 100) = false := decide_eq_false (by omega)
        have d2' : ¬ (n : Int) < 100 := by omega
        obtain ⟨a0, a1, a2, a3, a4, a5, a6, a7, a8, a9⟩ := obj_cells hB
        have hd1 := hd.alive hbel
        have he1 := he.alive hbel
        have hp1 := hp.alive hbel
        go_wp2_with fail
        refine (Encode_calls k Ad d cd Ae en ce tr Ap pa cp ta na wh st te wr hd1 he1 hp1 hel hpl hsz).mono ?_
        intro e w2 hR
        obtain ⟨l, A1, c1, el, rfl, hr2, hb2⟩ := encodes_good_of HC.out hR
        clear hR
        have hB2 := hB.below hb2 hB.lt
        clear a0 a1 a2 a3 a4 a5 a6 a7 a8 a9
        obtain ⟨b0, b1, b2, b3, b4, b5, b6, b7, b8, b9⟩ := obj_cells hB2
        have hd2 := hd1.alive hb2
        have he2 := he1.alive hb2
        have hp2 := hp1.alive hb2
        go_wp2_with fail
        refine (refEncode_calls k Ad d cd Ae en ce tr Ap pa cp ta na wh st te w2 hd2 he2 hp2 hel hpl hns).mono ?_
        intro e w3 hR
        obtain ⟨l2, A2, c2, el2, rfl, hr3, hb3⟩ := encodes_good_of HC.out hR
        clear hR
        obtain rfl : l2 = l := by rw [el2.out, el.out]
        have hB3 := hB2.below hb3 hB2.lt
        clear b0 b1 b2 b3 b4 b5 b6 b7 b8 b9
        obtain ⟨a0, a1, a2, a3, a4, a5, a6, a7, a8, a9⟩ := obj_cells hB3
        have hd3 := hd2.alive hb3
        have he3 := he2.alive hb3
        have hp3 := hp2.alive hb3
        have hl3 := hr2.alive hb3
        go_wp2_with fail
        refine (Id_calls k Ad d cd Ae en ce tr Ap pa cp ta na wh st te w3 hd3 he3 hp3 hel hpl hsz).mono ?_
        intro e w4 hR
        obtain ⟨s, es, rfl, hb4⟩ := id_good_of HC.out hR
        clear hR
        have hB4 := hB3.below hb4 hB3.lt
        clear a0 a1 a2 a3 a4 a5 a6 a7 a8 a9
        obtain ⟨b0, b1, b2, b3, b4, b5, b6, b7, b8, b9⟩ := obj_cells hB4
        have hd4 := hd3.alive hb4
        have he4 := he3.alive hb4
        have hp4 := hp3.alive hb4
        have hl4 := hl3.alive hb4
        have hm4 := hr3.alive hb4
        go_wp2_with fail
        refine (refId_calls k Ad d cd Ae en ce tr Ap pa cp ta na wh st te w4 hd4 he4 hp4 hel hpl hns).mono ?_
        intro e w5 hR
        obtain ⟨s2, es2, rfl, hb5⟩ := id_good_of HC.out hR
        clear hR
        obtain rfl : s2 = s := by rw [es2.out, es.out]
        have hB5 := hB4.below hb5 hB4.lt
        clear b0 b1 b2 b3 b4 b5 b6 b7 b8 b9
        have hB5d := hB5.drew
        have hd5 : Rd w5.drew w5.drew.heap.size 1 Ad d.length (bc d) := (hd4.alive hb5).drew
        have he5 : Rd w5.drew w5.drew.heap.size 3 Ae en.length (ec en) := (he4.alive hb5).drew
        have hp5 : Rd w5.drew w5.drew.heap.size 1 Ap pa.length (pc pa) := (hp4.alive hb5).drew
        have hl5 := (hl4.alive hb5).drew
        have hm5 := (hm4.alive hb5).drew
        have hbel5 : Below w.heap.size w w5.drew := ((((hbel.next hb2).next hb3).next hb4).next hb5).drew
        have hfew := linksOf_few (⟨k, d, en, tr, pa, ta, na, wh, st, te⟩ : Go.Dol.Obj)
        have HF := Lib.hid hfew
        clear hfew
        have HCK : Hid (errC (checkB geS (⟨k, d, en, tr, pa, ta, na, wh, st, te⟩ : Go.Dol.Obj)) = 0) := Lib.hid (by rw [HC.out]; rfl)
        have hK : Calls Try.prog 40 #[.agg #[.int .i64 k, .slice Ad d.length cd, .slice Ae en.length ce, .string tr, .slice Ap pa.length cp, .string ta, .string na, .string wh, .int .i64 st, .string te]] w5.drew fun e w6 => e = .returned (.int .i64 0) ∧ Below w5.drew.heap.size w5.drew w6 := (Check_calls k Ad d cd Ae en ce tr Ap pa cp ta na wh st te w5.drew hd5 he5 hp5 hel hpl hsz).mono fun e w6 h => by rw [HCK.out] at h; exact h
        have hL : ∀ v, Below w5.drew.heap.size w5.drew v → Calls Try.prog 41 #[.agg #[.int .i64 k, .slice Ad d.length cd, .slice Ae en.length ce, .string tr, .slice Ap pa.length cp, .string ta, .string na, .string wh, .int .i64 st, .string te]] v (RetL v.heap.size v (linksOf (⟨k, d, en, tr, pa, ta, na, wh, st, te⟩ : Go.Dol.Obj))) := fun v hb => Links_calls k Ad d cd Ae en ce tr Ap pa cp ta na wh st te v (hd5.alive hb) (he5.alive hb) (hp5.alive hb) hel hpl hsz
        have hM : ∀ v, Below w5.drew.heap.size w5.drew v → Calls Try.prog 48 #[.agg #[.int .i64 k, .slice Ad d.length cd, .slice Ae en.length ce, .string tr, .slice Ap pa.length cp, .string ta, .string na, .string wh, .int .i64 st, .string te]] v (RetL v.heap.size v (linksOf (⟨k, d, en, tr, pa, ta, na, wh, st, te⟩ : Go.Dol.Obj))) := fun v hb => refLinks_calls k Ad d cd Ae en ce tr Ap pa cp ta na wh st te v (hd5.alive hb) (he5.alive hb) (hp5.alive hb) hel hpl hns
        have hSm := Same_calls A1 l2 c1 A2 l2 c2 w5.drew _ _ hl5 hm5 (Lib.hid rfl)
        go_wp2_with fail
        go_region_held3 (fun w' => w'.cell? ⟨w.heap.size, 0, none⟩ = some (.int .i64 k) ∧ w'.cell? ⟨w.heap.size, 1, none⟩ = some (.slice Ad d.length cd) ∧ w'.cell? ⟨w.heap.size, 2, none⟩ = some (.slice Ae en.length ce) ∧ w'.cell? ⟨w.heap.size, 3, none⟩ = some (.string tr) ∧ w'.cell? ⟨w.heap.size, 4, none⟩ = some (.slice Ap pa.length cp) ∧ w'.cell? ⟨w.heap.size, 5, none⟩ = some (.string ta) ∧ w'.cell? ⟨w.heap.size, 6, none⟩ = some (.string na) ∧ w'.cell? ⟨w.heap.size, 7, none⟩ = some (.string wh) ∧ w'.cell? ⟨w.heap.size, 8, none⟩ = some (.int .i64 st) ∧ w'.cell? ⟨w.heap.size, 9, none⟩ = some (.string te)) (first | exact obj_cells hB5d | exact obj_cells hB7 | exact obj_cells hB9 | exact obj_cells hB8 | go_keep) ((first
          | (go_at_call 15; (with_reducible refine hSm.mono ?_); rintro e w6 ⟨rfl, rfl⟩)
          | (go_at_call 40; (with_reducible refine hK.mono ?_); rintro e w7 ⟨rfl, hb7⟩; have hB7 := hB5d.below hb7 hB5d.lt)
          | (go_at_call 41; (with_reducible refine (hL _ ?_).mono ?_); (first | exact hb7.next hb9 | exact hb7); rintro e w8 ⟨la, Aa, ca, ela, rfl, hoa, hb8⟩; have hB8 := (by first | exact hB9.below hb8 hB9.lt | exact hB7.below hb8 hB7.lt : Blk w8 w.heap.size 43 (ocells k (.slice Ad d.length cd) (.slice Ae en.length ce) tr (.slice Ap pa.length cp) ta na wh st te)); have hra := Rd.of_own hoa)
          | (go_at_call 48; (with_reducible refine (hM _ ?_).mono ?_); (first | exact hb7.next hb8 | exact hb7); rintro e w9 ⟨lb, Ab, cb, elb, rfl, hob, hb9⟩; have hB9 := (by first | exact hB8.below hb9 hB8.lt | exact hB7.below hb9 hB7.lt : Blk w9 w.heap.size 43 (ocells k (.slice Ad d.length cd) (.slice Ae en.length ce) tr (.slice Ap pa.length cp) ta na wh st te)); have hrb := Rd.of_own hob)
          | (go_at_call 47; first | ((with_reducible refine (texts_same Aa la ca Ab lb cb w9 w9.heap.size w9.heap.size (hra.alive hb9) hrb (by rw [ela.out]; exact HF.out) (by rw [elb.out]; exact HF.out) (by rw [ela.out, elb.out])).mono ?_); rintro e w10 ⟨rfl, q, rfl⟩) | ((with_reducible refine (texts_same Aa la ca Ab lb cb w8 w8.heap.size w8.heap.size hra (hrb.alive hb8) (by rw [ela.out]; exact HF.out) (by rw [elb.out]; exact HF.out) (by rw [ela.out, elb.out])).mono ?_); rintro e w10 ⟨rfl, q, rfl⟩))))
        all_goals
          go_wp2_with fail
          go_ret
          first
            | exact ⟨by first | rfl | go_simp, (((hbel5.next hb7).next hb8).next hb9).drewN' q⟩
            | exact ⟨by first | rfl | go_simp, (((hbel5.next hb7).next hb9).next hb8).drewN' q⟩
    · have d1 : decide ((n : Int) < (en.length : Int)) = false := decide_eq_false (by omega)
      have d1' : ¬ (n : Int) < (en.length : Int) := by omega
      obtain ⟨a0, a1, a2, a3, a4, a5, a6, a7, a8, a9⟩ := obj_cells hB
      have hd1 := hd.alive hbel
      have he1 := he.alive hbel
      have hp1 := hp.alive hbel
      go_wp2_with fail
      refine (Encode_calls k Ad d cd Ae en ce tr Ap pa cp ta na wh st te wr hd1 he1 hp1 hel hpl hsz).mono ?_
      intro e w2 hR
      obtain ⟨l, A1, c1, el, rfl, hr2, hb2⟩ := encodes_good_of HC.out hR
      clear hR
      have hB2 := hB.below hb2 hB.lt
      clear a0 a1 a2 a3 a4 a5 a6 a7 a8 a9
      obtain ⟨b0, b1, b2, b3, b4, b5, b6, b7, b8, b9⟩ := obj_cells hB2
      have hd2 := hd1.alive hb2
      have he2 := he1.alive hb2
      have hp2 := hp1.alive hb2
      go_wp2_with fail
      refine (refEncode_calls k Ad d cd Ae en ce tr Ap pa cp ta na wh st te w2 hd2 he2 hp2 hel hpl hns).mono ?_
      intro e w3 hR
      obtain ⟨l2, A2, c2, el2, rfl, hr3, hb3⟩ := encodes_good_of HC.out hR
      clear hR
      obtain rfl : l2 = l := by rw [el2.out, el.out]
      have hB3 := hB2.below hb3 hB2.lt
      clear b0 b1 b2 b3 b4 b5 b6 b7 b8 b9
      obtain ⟨a0, a1, a2, a3, a4, a5, a6, a7, a8, a9⟩ := obj_cells hB3
      have hd3 := hd2.alive hb3
      have he3 := he2.alive hb3
      have hp3 := hp2.alive hb3
      have hl3 := hr2.alive hb3
      go_wp2_with fail
      refine (Id_calls k Ad d cd Ae en ce tr Ap pa cp ta na wh st te w3 hd3 he3 hp3 hel hpl hsz).mono ?_
      intro e w4 hR
      obtain ⟨s, es, rfl, hb4⟩ := id_good_of HC.out hR
      clear hR
      have hB4 := hB3.below hb4 hB3.lt
      clear a0 a1 a2 a3 a4 a5 a6 a7 a8 a9
      obtain ⟨b0, b1, b2, b3, b4, b5, b6, b7, b8, b9⟩ := obj_cells hB4
      have hd4 := hd3.alive hb4
      have he4 := he3.alive hb4
      have hp4 := hp3.alive hb4
      have hl4 := hl3.alive hb4
      have hm4 := hr3.alive hb4
      go_wp2_with fail
      refine (refId_calls k Ad d cd Ae en ce tr Ap pa cp ta na wh st te w4 hd4 he4 hp4 hel hpl hns).mono ?_
      intro e w5 hR
      obtain ⟨s2, es2, rfl, hb5⟩ := id_good_of HC.out hR
      clear hR
      obtain rfl : s2 = s := by rw [es2.out, es.out]
      have hB5 := hB4.below hb5 hB4.lt
      clear b0 b1 b2 b3 b4 b5 b6 b7 b8 b9
      have hB5d := hB5.drew
      have hd5 : Rd w5.drew w5.drew.heap.size 1 Ad d.length (bc d) := (hd4.alive hb5).drew
      have he5 : Rd w5.drew w5.drew.heap.size 3 Ae en.length (ec en) := (he4.alive hb5).drew
      have hp5 : Rd w5.drew w5.drew.heap.size 1 Ap pa.length (pc pa) := (hp4.alive hb5).drew
      have hl5 := (hl4.alive hb5).drew
      have hm5 := (hm4.alive hb5).drew
      have hbel5 : Below w.heap.size w w5.drew := ((((hbel.next hb2).next hb3).next hb4).next hb5).drew
      have hfew := linksOf_few (⟨k, d, en, tr, pa, ta, na, wh, st, te⟩ : Go.Dol.Obj)
      have HF := Lib.hid hfew
      clear hfew
      have HCK : Hid (errC (checkB geS (⟨k, d, en, tr, pa, ta, na, wh, st, te⟩ : Go.Dol.Obj)) = 0) := Lib.hid (by rw [HC.out]; rfl)
      have hK : Calls Try.prog 40 #[.agg #[.int .i64 k, .slice Ad d.length cd, .slice Ae en.length ce, .string tr, .slice Ap pa.length cp, .string ta, .string na, .string wh, .int .i64 st, .string te]] w5.drew fun e w6 => e = .returned (.int .i64 0) ∧ Below w5.drew.heap.size w5.drew w6 := (Check_calls k Ad d cd Ae en ce tr Ap pa cp ta na wh st te w5.drew hd5 he5 hp5 hel hpl hsz).mono fun e w6 h => by rw [HCK.out] at h; exact h
      have hL : ∀ v, Below w5.drew.heap.size w5.drew v → Calls Try.prog 41 #[.agg #[.int .i64 k, .slice Ad d.length cd, .slice Ae en.length ce, .string tr, .slice Ap pa.length cp, .string ta, .string na, .string wh, .int .i64 st, .string te]] v (RetL v.heap.size v (linksOf (⟨k, d, en, tr, pa, ta, na, wh, st, te⟩ : Go.Dol.Obj))) := fun v hb => Links_calls k Ad d cd Ae en ce tr Ap pa cp ta na wh st te v (hd5.alive hb) (he5.alive hb) (hp5.alive hb) hel hpl hsz
      have hM : ∀ v, Below w5.drew.heap.size w5.drew v → Calls Try.prog 48 #[.agg #[.int .i64 k, .slice Ad d.length cd, .slice Ae en.length ce, .string tr, .slice Ap pa.length cp, .string ta, .string na, .string wh, .int .i64 st, .string te]] v (RetL v.heap.size v (linksOf (⟨k, d, en, tr, pa, ta, na, wh, st, te⟩ : Go.Dol.Obj))) := fun v hb => refLinks_calls k Ad d cd Ae en ce tr Ap pa cp ta na wh st te v (hd5.alive hb) (he5.alive hb) (hp5.alive hb) hel hpl hns
      have hSm := Same_calls A1 l2 c1 A2 l2 c2 w5.drew _ _ hl5 hm5 (Lib.hid rfl)
      go_wp2_with fail
      go_region_held3 (fun w' => w'.cell? ⟨w.heap.size, 0, none⟩ = some (.int .i64 k) ∧ w'.cell? ⟨w.heap.size, 1, none⟩ = some (.slice Ad d.length cd) ∧ w'.cell? ⟨w.heap.size, 2, none⟩ = some (.slice Ae en.length ce) ∧ w'.cell? ⟨w.heap.size, 3, none⟩ = some (.string tr) ∧ w'.cell? ⟨w.heap.size, 4, none⟩ = some (.slice Ap pa.length cp) ∧ w'.cell? ⟨w.heap.size, 5, none⟩ = some (.string ta) ∧ w'.cell? ⟨w.heap.size, 6, none⟩ = some (.string na) ∧ w'.cell? ⟨w.heap.size, 7, none⟩ = some (.string wh) ∧ w'.cell? ⟨w.heap.size, 8, none⟩ = some (.int .i64 st) ∧ w'.cell? ⟨w.heap.size, 9, none⟩ = some (.string te)) (first | exact obj_cells hB5d | exact obj_cells hB7 | exact obj_cells hB9 | exact obj_cells hB8 | go_keep) ((first
        | (go_at_call 15; (with_reducible refine hSm.mono ?_); rintro e w6 ⟨rfl, rfl⟩)
        | (go_at_call 40; (with_reducible refine hK.mono ?_); rintro e w7 ⟨rfl, hb7⟩; have hB7 := hB5d.below hb7 hB5d.lt)
        | (go_at_call 41; (with_reducible refine (hL _ ?_).mono ?_); (first | exact hb7.next hb9 | exact hb7); rintro e w8 ⟨la, Aa, ca, ela, rfl, hoa, hb8⟩; have hB8 := (by first | exact hB9.below hb8 hB9.lt | exact hB7.below hb8 hB7.lt : Blk w8 w.heap.size 43 (ocells k (.slice Ad d.length cd) (.slice Ae en.length ce) tr (.slice Ap pa.length cp) ta na wh st te)); have hra := Rd.of_own hoa)
        | (go_at_call 48; (with_reducible refine (hM _ ?_).mono ?_); (first | exact hb7.next hb8 | exact hb7); rintro e w9 ⟨lb, Ab, cb, elb, rfl, hob, hb9⟩; have hB9 := (by first | exact hB8.below hb9 hB8.lt | exact hB7.below hb9 hB7.lt : Blk w9 w.heap.size 43 (ocells k (.slice Ad d.length cd) (.slice Ae en.length ce) tr (.slice Ap pa.length cp) ta na wh st te)); have hrb := Rd.of_own hob)
        | (go_at_call 47; first | ((with_reducible refine (texts_same Aa la ca Ab lb cb w9 w9.heap.size w9.heap.size (hra.alive hb9) hrb (by rw [ela.out]; exact HF.out) (by rw [elb.out]; exact HF.out) (by rw [ela.out, elb.out])).mono ?_); rintro e w10 ⟨rfl, q, rfl⟩) | ((with_reducible refine (texts_same Aa la ca Ab lb cb w8 w8.heap.size w8.heap.size hra (hrb.alive hb8) (by rw [ela.out]; exact HF.out) (by rw [elb.out]; exact HF.out) (by rw [ela.out, elb.out])).mono ?_); rintro e w10 ⟨rfl, q, rfl⟩))))
      all_goals
        go_wp2_with fail
        go_ret
        first
          | exact ⟨by first | rfl | go_simp, (((hbel5.next hb7).next hb8).next hb9).drewN' q⟩
          | exact ⟨by first | rfl | go_simp, (((hbel5.next hb7).next hb9).next hb8).drewN' q⟩

set_option maxRecDepth 100000 in
set_option maxHeartbeats 8000000 in
theorem encodes_wrong (k : Int) (Ad : Option Addr) (d : List UInt8) (cd : Nat) (Ae : Option Addr) (en : List Ent) (ce : Nat) (tr : ByteArray) (Ap : Option Addr) (pa : List ByteArray) (cp : Nat) (ta na wh : ByteArray) (st : Int) (te : ByteArray) (w : World) (hd : Rd w w.heap.size 1 Ad d.length (bc d)) (he : Rd w w.heap.size 3 Ae en.length (ec en)) (hp : Rd w w.heap.size 1 Ap pa.length (pc pa)) (hel : en.length ≤ 140737488355328) (hpl : pa.length ≤ 140737488355328) (hsz : Hid (∀ p ∈ pa, p.size ≤ maxLen)) (hns : Hid (∀ e ∈ en, e.name.size ≤ maxLen)) (HC : Hid (checkB geS (⟨k, d, en, tr, pa, ta, na, wh, st, te⟩ : Go.Dol.Obj) = false)) :
    Calls Try.prog 13 #[.agg #[.int .i64 k, .slice Ad d.length cd, .slice Ae en.length ce, .string tr, .slice Ap pa.length cp, .string ta, .string na, .string wh, .int .i64 st, .string te]] w fun e w' => e = .returned (.bool true) ∧ Below w.heap.size w w' := by
  have hb0 : Below w.heap.size w (w.alloc (.cells #[.int .i64 k, .slice Ad d.length cd, .slice Ae en.length ce, .string tr, .slice Ap pa.length cp, .string ta, .string na, .string wh, .int .i64 st, .string te] 43)) := (Below.refl _ _).alloc (Nat.le_refl _) _
  have hB0 := Blk.new w 43 (ocells k (.slice Ad d.length cd) (.slice Ae en.length ce) tr (.slice Ap pa.length cp) ta na wh st te)
  go_enter Try.func13, Try.ntmps13
  go_wp2_with fail
  refine (awake_calls _).mono ?_
  rintro e w1 ⟨rfl, hb1⟩
  have hB1 := hB0.below hb1 hB0.lt
  have hbw := hb0.next hb1
  clear hB0 hb0 hb1
  go_wp2_with fail
  go_loopw [4] (fun i wr => EncRel w.heap.size (ocells k (.slice Ad d.length cd) (.slice Ae en.length ce) tr (.slice Ap pa.length cp) ta na wh st te) en w i wr) (fun i _ => en.length - (intOf i).toNat)
  case atStart => exact ⟨0, rfl, Nat.zero_le _, hB1, hbw⟩
  case round =>
    clear hB1 hbw
    obtain ⟨n, rfl, hn, hB, hbel⟩ := hrel
    have f1 : IntKind.i64.wrap ((n : Int) + 1) = (n : Int) + 1 := IntWalk.i64_in _ (by omega)
    by_cases h1 : n < en.length
    · have d1 : decide ((n : Int) < (en.length : Int)) = true := decide_eq_true (by omega)
      have d1' : (n : Int) < (en.length : Int) := by omega
      by_cases h2 : n < 100
      · have d2 : decide ((n : Int) < 100) = true := decide_eq_true (by omega)
        have d2' : (n : Int) < 100 := by omega
        have hn0 : (0 : Int) ≤ (n : Int) := by omega
        have hlen1 : en.length ≤ 9223372036854775807 := by omega
        have hrw := he.below hbel
        obtain ⟨bb, off, rfl, hbb, hcell⟩ := hrw.at_ (by omega)
        obtain ⟨p0, p1, p2⟩ := ec_get h1
        have q0 := hcell _ _ p0
        have hnm := Lib.hid (hns.out en[n] (List.getElem_mem h1))
        obtain ⟨x, hx⟩ : ∃ x, x = en[n] := ⟨_, rfl⟩
        rw [← hx] at q0 hnm
        obtain ⟨x0, x1, x2⟩ := x
        simp only at q0 hnm
        obtain ⟨b0, b1, b2, b3, b4, b5, b6, b7, b8, b9⟩ := obj_cells hB
        clear hx hcell p0 p1 p2
        go_wp2_with fail
        go_quiet ((first
          | (go_at_call 43; exact Calls.quiet_of_same (part_is x0 _))
          | (go_at_call 44; exact Calls.quiet_of_same (refPart_same x0 hnm.out _))))
        go_wp2_with fail
        exact ⟨⟨n + 1, by go_num, by omega, hB.drewN nq, hbel.drewN' nq⟩, by simp [intOf]; omega⟩
      · have d2 : decide ((n : Int) < 100) = false := decide_eq_false (by omega)
        have d2' : ¬ (n : Int) < 100 := by omega
        obtain ⟨a0, a1, a2, a3, a4, a5, a6, a7, a8, a9⟩ := obj_cells hB
        have hd1 := hd.alive hbel
        have he1 := he.alive hbel
        have hp1 := hp.alive hbel
        go_wp2_with fail
        refine (Encode_calls k Ad d cd Ae en ce tr Ap pa cp ta na wh st te wr hd1 he1 hp1 hel hpl hsz).mono ?_
        intro e w2 hR
        obtain ⟨rfl, hb2⟩ := encodes_wrong_of HC.out hR
        clear hR
        have hB2 := hB.below hb2 hB.lt
        clear a0 a1 a2 a3 a4 a5 a6 a7 a8 a9
        obtain ⟨b0, b1, b2, b3, b4, b5, b6, b7, b8, b9⟩ := obj_cells hB2
        have hd2 := hd1.alive hb2
        have he2 := he1.alive hb2
        have hp2 := hp1.alive hb2
        go_wp2_with fail
        refine (refEncode_calls k Ad d cd Ae en ce tr Ap pa cp ta na wh st te w2 hd2 he2 hp2 hel hpl hns).mono ?_
        intro e w3 hR
        obtain ⟨rfl, hb3⟩ := encodes_wrong_of HC.out hR
        clear hR
        have hB3 := hB2.below hb3 hB2.lt
        clear b0 b1 b2 b3 b4 b5 b6 b7 b8 b9
        obtain ⟨a0, a1, a2, a3, a4, a5, a6, a7, a8, a9⟩ := obj_cells hB3
        have hd3 := hd2.alive hb3
        have he3 := he2.alive hb3
        have hp3 := hp2.alive hb3
        go_wp2_with fail
        refine (Id_calls k Ad d cd Ae en ce tr Ap pa cp ta na wh st te w3 hd3 he3 hp3 hel hpl hsz).mono ?_
        intro e w4 hR
        obtain ⟨rfl, hb4⟩ := id_wrong_of HC.out hR
        clear hR
        have hB4 := hB3.below hb4 hB3.lt
        clear a0 a1 a2 a3 a4 a5 a6 a7 a8 a9
        obtain ⟨b0, b1, b2, b3, b4, b5, b6, b7, b8, b9⟩ := obj_cells hB4
        have hd4 := hd3.alive hb4
        have he4 := he3.alive hb4
        have hp4 := hp3.alive hb4
        go_wp2_with fail
        refine (refId_calls k Ad d cd Ae en ce tr Ap pa cp ta na wh st te w4 hd4 he4 hp4 hel hpl hns).mono ?_
        intro e w5 hR
        obtain ⟨rfl, hb5⟩ := id_wrong_of HC.out hR
        clear hR
        have hB5 := hB4.below hb5 hB4.lt
        clear b0 b1 b2 b3 b4 b5 b6 b7 b8 b9
        have hB5d := hB5.drew
        have hd5 : Rd w5.drew w5.drew.heap.size 1 Ad d.length (bc d) := (hd4.alive hb5).drew
        have he5 : Rd w5.drew w5.drew.heap.size 3 Ae en.length (ec en) := (he4.alive hb5).drew
        have hp5 : Rd w5.drew w5.drew.heap.size 1 Ap pa.length (pc pa) := (hp4.alive hb5).drew
        have hbel5 : Below w.heap.size w w5.drew := ((((hbel.next hb2).next hb3).next hb4).next hb5).drew
        have hfew := linksOf_few (⟨k, d, en, tr, pa, ta, na, wh, st, te⟩ : Go.Dol.Obj)
        have HF := Lib.hid hfew
        clear hfew
        have HCK : Hid (errC (checkB geS (⟨k, d, en, tr, pa, ta, na, wh, st, te⟩ : Go.Dol.Obj)) = 1) := Lib.hid (by rw [HC.out]; rfl)
        have hK : Calls Try.prog 40 #[.agg #[.int .i64 k, .slice Ad d.length cd, .slice Ae en.length ce, .string tr, .slice Ap pa.length cp, .string ta, .string na, .string wh, .int .i64 st, .string te]] w5.drew fun e w6 => e = .returned (.int .i64 1) ∧ Below w5.drew.heap.size w5.drew w6 := (Check_calls k Ad d cd Ae en ce tr Ap pa cp ta na wh st te w5.drew hd5 he5 hp5 hel hpl hsz).mono fun e w6 h => by rw [HCK.out] at h; exact h
        have hL : ∀ v, Below w5.drew.heap.size w5.drew v → Calls Try.prog 41 #[.agg #[.int .i64 k, .slice Ad d.length cd, .slice Ae en.length ce, .string tr, .slice Ap pa.length cp, .string ta, .string na, .string wh, .int .i64 st, .string te]] v (RetL v.heap.size v (linksOf (⟨k, d, en, tr, pa, ta, na, wh, st, te⟩ : Go.Dol.Obj))) := fun v hb => Links_calls k Ad d cd Ae en ce tr Ap pa cp ta na wh st te v (hd5.alive hb) (he5.alive hb) (hp5.alive hb) hel hpl hsz
        have hM : ∀ v, Below w5.drew.heap.size w5.drew v → Calls Try.prog 48 #[.agg #[.int .i64 k, .slice Ad d.length cd, .slice Ae en.length ce, .string tr, .slice Ap pa.length cp, .string ta, .string na, .string wh, .int .i64 st, .string te]] v (RetL v.heap.size v (linksOf (⟨k, d, en, tr, pa, ta, na, wh, st, te⟩ : Go.Dol.Obj))) := fun v hb => refLinks_calls k Ad d cd Ae en ce tr Ap pa cp ta na wh st te v (hd5.alive hb) (he5.alive hb) (hp5.alive hb) hel hpl hns
        have hSm := Same_nil w5.drew
        go_wp2_with fail
        go_region_held3 (fun w' => w'.cell? ⟨w.heap.size, 0, none⟩ = some (.int .i64 k) ∧ w'.cell? ⟨w.heap.size, 1, none⟩ = some (.slice Ad d.length cd) ∧ w'.cell? ⟨w.heap.size, 2, none⟩ = some (.slice Ae en.length ce) ∧ w'.cell? ⟨w.heap.size, 3, none⟩ = some (.string tr) ∧ w'.cell? ⟨w.heap.size, 4, none⟩ = some (.slice Ap pa.length cp) ∧ w'.cell? ⟨w.heap.size, 5, none⟩ = some (.string ta) ∧ w'.cell? ⟨w.heap.size, 6, none⟩ = some (.string na) ∧ w'.cell? ⟨w.heap.size, 7, none⟩ = some (.string wh) ∧ w'.cell? ⟨w.heap.size, 8, none⟩ = some (.int .i64 st) ∧ w'.cell? ⟨w.heap.size, 9, none⟩ = some (.string te)) (first | exact obj_cells hB5d | exact obj_cells hB7 | exact obj_cells hB9 | exact obj_cells hB8 | go_keep) ((first
          | (go_at_call 15; (with_reducible refine hSm.mono ?_); rintro e w6 ⟨rfl, rfl⟩)
          | (go_at_call 40; (with_reducible refine hK.mono ?_); rintro e w7 ⟨rfl, hb7⟩; have hB7 := hB5d.below hb7 hB5d.lt)
          | (go_at_call 41; (with_reducible refine (hL _ ?_).mono ?_); (first | exact hb7.next hb9 | exact hb7); rintro e w8 ⟨la, Aa, ca, ela, rfl, hoa, hb8⟩; have hB8 := (by first | exact hB9.below hb8 hB9.lt | exact hB7.below hb8 hB7.lt : Blk w8 w.heap.size 43 (ocells k (.slice Ad d.length cd) (.slice Ae en.length ce) tr (.slice Ap pa.length cp) ta na wh st te)); have hra := Rd.of_own hoa)
          | (go_at_call 48; (with_reducible refine (hM _ ?_).mono ?_); (first | exact hb7.next hb8 | exact hb7); rintro e w9 ⟨lb, Ab, cb, elb, rfl, hob, hb9⟩; have hB9 := (by first | exact hB8.below hb9 hB8.lt | exact hB7.below hb9 hB7.lt : Blk w9 w.heap.size 43 (ocells k (.slice Ad d.length cd) (.slice Ae en.length ce) tr (.slice Ap pa.length cp) ta na wh st te)); have hrb := Rd.of_own hob)
          | (go_at_call 47; first | ((with_reducible refine (texts_same Aa la ca Ab lb cb w9 w9.heap.size w9.heap.size (hra.alive hb9) hrb (by rw [ela.out]; exact HF.out) (by rw [elb.out]; exact HF.out) (by rw [ela.out, elb.out])).mono ?_); rintro e w10 ⟨rfl, q, rfl⟩) | ((with_reducible refine (texts_same Aa la ca Ab lb cb w8 w8.heap.size w8.heap.size hra (hrb.alive hb8) (by rw [ela.out]; exact HF.out) (by rw [elb.out]; exact HF.out) (by rw [ela.out, elb.out])).mono ?_); rintro e w10 ⟨rfl, q, rfl⟩))))
        all_goals
          go_wp2_with fail
          go_ret
          first
            | exact ⟨by first | rfl | go_simp, (((hbel5.next hb7).next hb8).next hb9).drewN' q⟩
            | exact ⟨by first | rfl | go_simp, (((hbel5.next hb7).next hb9).next hb8).drewN' q⟩
    · have d1 : decide ((n : Int) < (en.length : Int)) = false := decide_eq_false (by omega)
      have d1' : ¬ (n : Int) < (en.length : Int) := by omega
      obtain ⟨a0, a1, a2, a3, a4, a5, a6, a7, a8, a9⟩ := obj_cells hB
      have hd1 := hd.alive hbel
      have he1 := he.alive hbel
      have hp1 := hp.alive hbel
      go_wp2_with fail
      refine (Encode_calls k Ad d cd Ae en ce tr Ap pa cp ta na wh st te wr hd1 he1 hp1 hel hpl hsz).mono ?_
      intro e w2 hR
      obtain ⟨rfl, hb2⟩ := encodes_wrong_of HC.out hR
      clear hR
      have hB2 := hB.below hb2 hB.lt
      clear a0 a1 a2 a3 a4 a5 a6 a7 a8 a9
      obtain ⟨b0, b1, b2, b3, b4, b5, b6, b7, b8, b9⟩ := obj_cells hB2
      have hd2 := hd1.alive hb2
      have he2 := he1.alive hb2
      have hp2 := hp1.alive hb2
      go_wp2_with fail
      refine (refEncode_calls k Ad d cd Ae en ce tr Ap pa cp ta na wh st te w2 hd2 he2 hp2 hel hpl hns).mono ?_
      intro e w3 hR
      obtain ⟨rfl, hb3⟩ := encodes_wrong_of HC.out hR
      clear hR
      have hB3 := hB2.below hb3 hB2.lt
      clear b0 b1 b2 b3 b4 b5 b6 b7 b8 b9
      obtain ⟨a0, a1, a2, a3, a4, a5, a6, a7, a8, a9⟩ := obj_cells hB3
      have hd3 := hd2.alive hb3
      have he3 := he2.alive hb3
      have hp3 := hp2.alive hb3
      go_wp2_with fail
      refine (Id_calls k Ad d cd Ae en ce tr Ap pa cp ta na wh st te w3 hd3 he3 hp3 hel hpl hsz).mono ?_
      intro e w4 hR
      obtain ⟨rfl, hb4⟩ := id_wrong_of HC.out hR
      clear hR
      have hB4 := hB3.below hb4 hB3.lt
      clear a0 a1 a2 a3 a4 a5 a6 a7 a8 a9
      obtain ⟨b0, b1, b2, b3, b4, b5, b6, b7, b8, b9⟩ := obj_cells hB4
      have hd4 := hd3.alive hb4
      have he4 := he3.alive hb4
      have hp4 := hp3.alive hb4
      go_wp2_with fail
      refine (refId_calls k Ad d cd Ae en ce tr Ap pa cp ta na wh st te w4 hd4 he4 hp4 hel hpl hns).mono ?_
      intro e w5 hR
      obtain ⟨rfl, hb5⟩ := id_wrong_of HC.out hR
      clear hR
      have hB5 := hB4.below hb5 hB4.lt
      clear b0 b1 b2 b3 b4 b5 b6 b7 b8 b9
      have hB5d := hB5.drew
      have hd5 : Rd w5.drew w5.drew.heap.size 1 Ad d.length (bc d) := (hd4.alive hb5).drew
      have he5 : Rd w5.drew w5.drew.heap.size 3 Ae en.length (ec en) := (he4.alive hb5).drew
      have hp5 : Rd w5.drew w5.drew.heap.size 1 Ap pa.length (pc pa) := (hp4.alive hb5).drew
      have hbel5 : Below w.heap.size w w5.drew := ((((hbel.next hb2).next hb3).next hb4).next hb5).drew
      have hfew := linksOf_few (⟨k, d, en, tr, pa, ta, na, wh, st, te⟩ : Go.Dol.Obj)
      have HF := Lib.hid hfew
      clear hfew
      have HCK : Hid (errC (checkB geS (⟨k, d, en, tr, pa, ta, na, wh, st, te⟩ : Go.Dol.Obj)) = 1) := Lib.hid (by rw [HC.out]; rfl)
      have hK : Calls Try.prog 40 #[.agg #[.int .i64 k, .slice Ad d.length cd, .slice Ae en.length ce, .string tr, .slice Ap pa.length cp, .string ta, .string na, .string wh, .int .i64 st, .string te]] w5.drew fun e w6 => e = .returned (.int .i64 1) ∧ Below w5.drew.heap.size w5.drew w6 := (Check_calls k Ad d cd Ae en ce tr Ap pa cp ta na wh st te w5.drew hd5 he5 hp5 hel hpl hsz).mono fun e w6 h => by rw [HCK.out] at h; exact h
      have hL : ∀ v, Below w5.drew.heap.size w5.drew v → Calls Try.prog 41 #[.agg #[.int .i64 k, .slice Ad d.length cd, .slice Ae en.length ce, .string tr, .slice Ap pa.length cp, .string ta, .string na, .string wh, .int .i64 st, .string te]] v (RetL v.heap.size v (linksOf (⟨k, d, en, tr, pa, ta, na, wh, st, te⟩ : Go.Dol.Obj))) := fun v hb => Links_calls k Ad d cd Ae en ce tr Ap pa cp ta na wh st te v (hd5.alive hb) (he5.alive hb) (hp5.alive hb) hel hpl hsz
      have hM : ∀ v, Below w5.drew.heap.size w5.drew v → Calls Try.prog 48 #[.agg #[.int .i64 k, .slice Ad d.length cd, .slice Ae en.length ce, .string tr, .slice Ap pa.length cp, .string ta, .string na, .string wh, .int .i64 st, .string te]] v (RetL v.heap.size v (linksOf (⟨k, d, en, tr, pa, ta, na, wh, st, te⟩ : Go.Dol.Obj))) := fun v hb => refLinks_calls k Ad d cd Ae en ce tr Ap pa cp ta na wh st te v (hd5.alive hb) (he5.alive hb) (hp5.alive hb) hel hpl hns
      have hSm := Same_nil w5.drew
      go_wp2_with fail
      go_region_held3 (fun w' => w'.cell? ⟨w.heap.size, 0, none⟩ = some (.int .i64 k) ∧ w'.cell? ⟨w.heap.size, 1, none⟩ = some (.slice Ad d.length cd) ∧ w'.cell? ⟨w.heap.size, 2, none⟩ = some (.slice Ae en.length ce) ∧ w'.cell? ⟨w.heap.size, 3, none⟩ = some (.string tr) ∧ w'.cell? ⟨w.heap.size, 4, none⟩ = some (.slice Ap pa.length cp) ∧ w'.cell? ⟨w.heap.size, 5, none⟩ = some (.string ta) ∧ w'.cell? ⟨w.heap.size, 6, none⟩ = some (.string na) ∧ w'.cell? ⟨w.heap.size, 7, none⟩ = some (.string wh) ∧ w'.cell? ⟨w.heap.size, 8, none⟩ = some (.int .i64 st) ∧ w'.cell? ⟨w.heap.size, 9, none⟩ = some (.string te)) (first | exact obj_cells hB5d | exact obj_cells hB7 | exact obj_cells hB9 | exact obj_cells hB8 | go_keep) ((first
        | (go_at_call 15; (with_reducible refine hSm.mono ?_); rintro e w6 ⟨rfl, rfl⟩)
        | (go_at_call 40; (with_reducible refine hK.mono ?_); rintro e w7 ⟨rfl, hb7⟩; have hB7 := hB5d.below hb7 hB5d.lt)
        | (go_at_call 41; (with_reducible refine (hL _ ?_).mono ?_); (first | exact hb7.next hb9 | exact hb7); rintro e w8 ⟨la, Aa, ca, ela, rfl, hoa, hb8⟩; have hB8 := (by first | exact hB9.below hb8 hB9.lt | exact hB7.below hb8 hB7.lt : Blk w8 w.heap.size 43 (ocells k (.slice Ad d.length cd) (.slice Ae en.length ce) tr (.slice Ap pa.length cp) ta na wh st te)); have hra := Rd.of_own hoa)
        | (go_at_call 48; (with_reducible refine (hM _ ?_).mono ?_); (first | exact hb7.next hb8 | exact hb7); rintro e w9 ⟨lb, Ab, cb, elb, rfl, hob, hb9⟩; have hB9 := (by first | exact hB8.below hb9 hB8.lt | exact hB7.below hb9 hB7.lt : Blk w9 w.heap.size 43 (ocells k (.slice Ad d.length cd) (.slice Ae en.length ce) tr (.slice Ap pa.length cp) ta na wh st te)); have hrb := Rd.of_own hob)
        | (go_at_call 47; first | ((with_reducible refine (texts_same Aa la ca Ab lb cb w9 w9.heap.size w9.heap.size (hra.alive hb9) hrb (by rw [ela.out]; exact HF.out) (by rw [elb.out]; exact HF.out) (by rw [ela.out, elb.out])).mono ?_); rintro e w10 ⟨rfl, q, rfl⟩) | ((with_reducible refine (texts_same Aa la ca Ab lb cb w8 w8.heap.size w8.heap.size hra (hrb.alive hb8) (by rw [ela.out]; exact HF.out) (by rw [elb.out]; exact HF.out) (by rw [ela.out, elb.out])).mono ?_); rintro e w10 ⟨rfl, q, rfl⟩))))
      all_goals
        go_wp2_with fail
        go_ret
        first
          | exact ⟨by first | rfl | go_simp, (((hbel5.next hb7).next hb8).next hb9).drewN' q⟩
          | exact ⟨by first | rfl | go_simp, (((hbel5.next hb7).next hb9).next hb8).drewN' q⟩

theorem objectEncodes_walk (k : Int) (Ad : Option Addr) (d : List UInt8) (cd : Nat) (Ae : Option Addr) (en : List Ent) (ce : Nat) (tr : ByteArray) (Ap : Option Addr) (pa : List ByteArray) (cp : Nat) (ta na wh : ByteArray) (st : Int) (te : ByteArray) (w : World) (hd : Rd w w.heap.size 1 Ad d.length (bc d)) (he : Rd w w.heap.size 3 Ae en.length (ec en)) (hp : Rd w w.heap.size 1 Ap pa.length (pc pa)) (hel : en.length ≤ 140737488355328) (hpl : pa.length ≤ 140737488355328) (hsz : Hid (∀ p ∈ pa, p.size ≤ maxLen)) (wk : (Lit.int .i64 k).wf = true) (ws : (Lit.int .i64 st).wf = true) (hns : Hid (∀ e ∈ en, e.name.size ≤ maxLen)) :
    Calls Try.prog 13 #[.agg #[.int .i64 k, .slice Ad d.length cd, .slice Ae en.length ce, .string tr, .slice Ap pa.length cp, .string ta, .string na, .string wh, .int .i64 st, .string te]] w fun e w' => e = .returned (.bool true) ∧ Below w.heap.size w w' := by
  cases hc : checkB geS (⟨k, d, en, tr, pa, ta, na, wh, st, te⟩ : Go.Dol.Obj) with
  | false => exact encodes_wrong k Ad d cd Ae en ce tr Ap pa cp ta na wh st te w hd he hp hel hpl hsz hns (Lib.hid hc)
  | true => exact encodes_good k Ad d cd Ae en ce tr Ap pa cp ta na wh st te w hd he hp hel hpl hsz hns (Lib.hid hc)
end Go.Proofs.Ytcefbhmmijmefaa
