/- The law ObjectDecodes: which object any bytes are, or that they are none, is what the document says. Conditions: bytes of at most 2^47 - 4096. -/
import Derived.Test.YtcefbhmmijmefaaObj24
import Derived.Test.YtcefbhmmijmefaaObj12
import Derived.Test.YtcefbhmmijmefaaObjAwake
namespace Go.Proofs.Ytcefbhmmijmefaa
open Go.RowKit Go.Dol
set_option linter.unusedVariables false

set_option maxRecDepth 100000 in
set_option maxHeartbeats 8000000 in
theorem refDecodeN_calls (A : Option Addr) (x : UInt8) (l : List UInt8) (n c : Nat) (w : World) (hn : n = l.length + 1) (hr : Rd w w.heap.size 1 A n (bc (x :: l))) (hc : n ≤ c) (hcm : c ≤ maxLen) (h1 : x ≠ 1) (h2 : x ≠ 2) (h3 : x ≠ 3) (h4 : x ≠ 4) :
    Calls Try.prog 37 #[.slice A n c] w (RetDec w none) := by
  have d0 : ((n : Int) == 0) = false := beq_eq_false_iff_ne.2 (by omega)
  have hn0 : (0 : Int) < (n : Int) := by omega
  obtain ⟨m, A', c', em, jm, jm', ⟨rm, km, km'⟩, _, _, _, sm⟩ := sl_from (k := 1) (l := x :: l) (c := c) 1 rfl (by rw [List.length_cons, ← hn]; exact hr) (by simp) (by simp; omega) hcm
  rw [List.length_cons, ← hn] at sm jm
  obtain ⟨gb, off, rfl, hgb, hcell⟩ := hr.at_ (by omega)
  have hb1 : Below w.heap.size w (w.alloc (.cells #[.int .i64 0, .slice none 0 0, .slice none 0 0, .string ⟨#[]⟩, .slice none 0 0, .string ⟨#[]⟩, .string ⟨#[]⟩, .string ⟨#[]⟩, .int .i64 0, .string ⟨#[]⟩] 43)) := (Below.refl _ _).alloc (Nat.le_refl _) _
  have hb2 := hb1.alloc hb1.size (.cells #[.slice A' m.length c', .bool false] 81)
  have hb3 := hb2.alloc hb2.size (.cells #[.int .i64 (x.toNat : Nat), .slice none 0 0, .slice none 0 0, .string ⟨#[]⟩, .slice none 0 0, .string ⟨#[]⟩, .string ⟨#[]⟩, .string ⟨#[]⟩, .int .i64 0, .string ⟨#[]⟩] 43)
  have hB1 := Blk.new w 43 zcells
  have hB3 := (hB1.alloc (.cells #[.slice A' m.length c', .bool false] 81)).alloc (.cells #[.int .i64 (x.toNat : Nat), .slice none 0 0, .slice none 0 0, .string ⟨#[]⟩, .slice none 0 0, .string ⟨#[]⟩, .string ⟨#[]⟩, .string ⟨#[]⟩, .int .i64 0, .string ⟨#[]⟩] 43)
  have s1 : (w.alloc (.cells #[.int .i64 0, .slice none 0 0, .slice none 0 0, .string ⟨#[]⟩, .slice none 0 0, .string ⟨#[]⟩, .string ⟨#[]⟩, .string ⟨#[]⟩, .int .i64 0, .string ⟨#[]⟩] 43)).heap.size = w.heap.size + 1 := by simp
  have s2 : ((w.alloc (.cells #[.int .i64 0, .slice none 0 0, .slice none 0 0, .string ⟨#[]⟩, .slice none 0 0, .string ⟨#[]⟩, .string ⟨#[]⟩, .string ⟨#[]⟩, .int .i64 0, .string ⟨#[]⟩] 43)).alloc (.cells #[.slice A' m.length c', .bool false] 81)).heap.size = w.heap.size + 2 := by simp
  have hR2 := (Blk.new (w.alloc (.cells #[.int .i64 0, .slice none 0 0, .slice none 0 0, .string ⟨#[]⟩, .slice none 0 0, .string ⟨#[]⟩, .string ⟨#[]⟩, .string ⟨#[]⟩, .int .i64 0, .string ⟨#[]⟩] 43)) 81 [.slice A' m.length c', .bool false]).alloc (.cells #[.int .i64 (x.toNat : Nat), .slice none 0 0, .slice none 0 0, .string ⟨#[]⟩, .slice none 0 0, .string ⟨#[]⟩, .string ⟨#[]⟩, .string ⟨#[]⟩, .int .i64 0, .string ⟨#[]⟩] 43)
  have hX3 : Blk (((w.alloc (.cells #[.int .i64 0, .slice none 0 0, .slice none 0 0, .string ⟨#[]⟩, .slice none 0 0, .string ⟨#[]⟩, .string ⟨#[]⟩, .string ⟨#[]⟩, .int .i64 0, .string ⟨#[]⟩] 43)).alloc (.cells #[.slice A' m.length c', .bool false] 81)).alloc (.cells #[.int .i64 (x.toNat : Nat), .slice none 0 0, .slice none 0 0, .string ⟨#[]⟩, .slice none 0 0, .string ⟨#[]⟩, .string ⟨#[]⟩, .string ⟨#[]⟩, .int .i64 0, .string ⟨#[]⟩] 43)) (w.heap.size + 2) 43 (ocells (x.toNat : Nat) (.slice none 0 0) (.slice none 0 0) ⟨#[]⟩ (.slice none 0 0) ⟨#[]⟩ ⟨#[]⟩ ⟨#[]⟩ 0 ⟨#[]⟩) := by
    have h := Blk.new ((w.alloc (.cells #[.int .i64 0, .slice none 0 0, .slice none 0 0, .string ⟨#[]⟩, .slice none 0 0, .string ⟨#[]⟩, .string ⟨#[]⟩, .string ⟨#[]⟩, .int .i64 0, .string ⟨#[]⟩] 43)).alloc (.cells #[.slice A' m.length c', .bool false] 81)) 43 (ocells (x.toNat : Nat) (.slice none 0 0) (.slice none 0 0) ⟨#[]⟩ (.slice none 0 0) ⟨#[]⟩ ⟨#[]⟩ ⟨#[]⟩ 0 ⟨#[]⟩)
    rw [s2] at h
    exact h
  rw [s1] at hR2
  have hx1 : w.cell? ⟨gb, off, none⟩ = some (.int .u8 x.toNat) := hcell 0 (.int .u8 x.toNat) rfl
  have k1 : ((x.toNat : Nat) : Int) ≠ 1 := fun e => h1 (UInt8.toNat_inj.1 (by rw [show (1 : UInt8).toNat = 1 from rfl]; omega))
  have k2 : ((x.toNat : Nat) : Int) ≠ 2 := fun e => h2 (UInt8.toNat_inj.1 (by rw [show (2 : UInt8).toNat = 2 from rfl]; omega))
  have k3 : ((x.toNat : Nat) : Int) ≠ 3 := fun e => h3 (UInt8.toNat_inj.1 (by rw [show (3 : UInt8).toNat = 3 from rfl]; omega))
  have k4 : ((x.toNat : Nat) : Int) ≠ 4 := fun e => h4 (UInt8.toNat_inj.1 (by rw [show (4 : UInt8).toNat = 4 from rfl]; omega))
  have b1 : (((x.toNat : Nat) : Int) == 1) = false := beq_eq_false_iff_ne.2 k1
  have b2 : (((x.toNat : Nat) : Int) == 2) = false := beq_eq_false_iff_ne.2 k2
  have b3 : (((x.toNat : Nat) : Int) == 3) = false := beq_eq_false_iff_ne.2 k3
  have b4 : (((x.toNat : Nat) : Int) == 4) = false := beq_eq_false_iff_ne.2 k4
  have hxl : x.toNat < 256 := x.toNat_lt
  have hwx : IntKind.i64.wrap (x.toNat : Int) = (x.toNat : Int) := IntWalk.i64_in _ (by omega)
  have HC : Hid (checkB geS ⟨((x.toNat : Nat) : Int), [], [], ⟨#[]⟩, [], ⟨#[]⟩, ⟨#[]⟩, ⟨#[]⟩, 0, ⟨#[]⟩⟩ = false) := by
    unfold Hid checkB
    rw [if_neg k1, if_neg k2, if_neg k3, if_neg k4]
  have hE := refEncode_wrong (x.toNat : Nat) none [] 0 none [] 0 ⟨#[]⟩ none [] 0 ⟨#[]⟩ ⟨#[]⟩ ⟨#[]⟩ 0 ⟨#[]⟩ (((w.alloc (.cells #[.int .i64 0, .slice none 0 0, .slice none 0 0, .string ⟨#[]⟩, .slice none 0 0, .string ⟨#[]⟩, .string ⟨#[]⟩, .string ⟨#[]⟩, .int .i64 0, .string ⟨#[]⟩] 43)).alloc (.cells #[.slice A' m.length c', .bool false] 81)).alloc (.cells #[.int .i64 (x.toNat : Nat), .slice none 0 0, .slice none 0 0, .string ⟨#[]⟩, .slice none 0 0, .string ⟨#[]⟩, .string ⟨#[]⟩, .string ⟨#[]⟩, .int .i64 0, .string ⟨#[]⟩] 43)) Rd.nil Rd.nil Rd.nil (Nat.zero_le _) (Nat.zero_le _) (Lib.hid (by simp)) HC
  obtain ⟨z0, z1, z2, z3, z4, z5, z6, z7, z8, z9⟩ := obj_cells hX3
  clear hcell h1 h2 h3 h4 k1 k2 k3 k4 jm jm' rm km km'
  have HN := Lib.hid hn
  clear hn
  go_enter Try.func37, Try.ntmps37
  go_wp2_with fail
  refine hE.mono ?_
  rintro e w6 ⟨rfl, hb6⟩
  have hB7 := hB3.below hb6 hB3.lt
  have hR7 := hR2.below hb6 hR2.lt
  have hbe : Below w.heap.size w w6 := hb3.next hb6
  have e1 : w6.cell? ⟨w.heap.size + 1, 1, none⟩ = some (.bool false) := by rw [hR7.cell]; rfl
  clear z0 z1 z2 z3 z4 z5 z6 z7 z8 z9 hE
  go_wp2_with ((refine wpList_store_blk (by rfl) _ (.tmp 2) (.tmp 141) rfl w.heap.size zcells rfl rfl 43 zcells hB7 (by kernel_rfl) rfl (by decide) ?_; intro w8 hB8 hg8))
  have hl := Go.run_loadVar_row (P := Try.prog) w8 w.heap.size 43 43 zcells.toArray (0, 0) _ hB8 Try.underlying43 rfl (by kernel_rfl)
  refine bodyPost_ret (v := .tuple #[.agg zcells.toArray, .int .i64 2]) ?_ rfl ⟨rfl, hbe.grown hg8 hbe.size (fun k hk => by cases hk; exact Nat.le_refl _)⟩
  simp [results, Try.results37, asAddr, hl]

theorem refDecode_calls (A : Option Addr) (b : List UInt8) (c : Nat) (w : World) (hr : Rd w w.heap.size 1 A b.length (bc b)) (hc : b.length ≤ c) (hcm : c ≤ maxLen) (hl : b.length ≤ 140737488351232) :
    Calls Try.prog 37 #[.slice A b.length c] w (RetDec w (decO geS b)) := by
  cases b with
  | nil => exact refDecode0_calls A c w
  | cons x l =>
    have hll : l.length ≤ 140737488351231 := by rw [List.length_cons] at hl; omega
    by_cases h1 : x = 1
    · subst h1
      exact refDecode1_calls A l _ c w rfl hr hc hcm hll
    by_cases h2 : x = 2
    · subst h2
      exact refDecode2_calls A l _ c w rfl hr hc hcm hll
    by_cases h3 : x = 3
    · subst h3
      exact refDecode3_calls A l _ c w rfl hr hc hcm hll
    by_cases h4 : x = 4
    · subst h4
      exact refDecode4_calls A l _ c w rfl hr hc hcm hll
    have hd : decO geS (x :: l) = none := by
      have hp : parseO (x :: l) = none := by
        show parseK x l = none
        unfold parseK
        rw [if_neg h1, if_neg h2, if_neg h3, if_neg h4]
      unfold decO
      rw [hp]
    rw [hd]
    exact refDecodeN_calls A x l _ c w rfl hr hc hcm h1 h2 h3 h4

set_option maxRecDepth 100000 in
set_option maxHeartbeats 4000000 in
theorem decodes_none (A : Option Addr) (b : List UInt8) (c : Nat) (w : World) (hr : Rd w w.heap.size 1 A b.length (bc b)) (hc : b.length ≤ c) (hcm : c ≤ maxLen) (hl : b.length ≤ 140737488351232) (HD : Hid (decO geS b = none)) :
    Calls Try.prog 7 #[.slice A b.length c] w fun e w' => e = .returned (.bool true) ∧ Below w.heap.size w w' := by
  go_enter Try.func7, Try.ntmps7
  go_wp2_with fail
  refine (awake_calls _).mono ?_
  rintro e w1 ⟨rfl, hb1⟩
  have hr1 := hr.alive hb1
  go_wp2_with fail
  refine (Decode_calls A b c w1 hr1 hc hcm hl).mono ?_
  rw [HD.out]
  rintro e w2 ⟨rfl, hb2⟩
  have hx : Below w2.heap.size w2 (w2.alloc (.cells #[.int .i64 0, .slice none 0 0, .slice none 0 0, .string ⟨#[]⟩, .slice none 0 0, .string ⟨#[]⟩, .string ⟨#[]⟩, .string ⟨#[]⟩, .int .i64 0, .string ⟨#[]⟩] 43)) := (Below.refl _ _).alloc (Nat.le_refl _) _
  have hX := Blk.new w2 43 (ocells 0 (.slice none 0 0) (.slice none 0 0) ⟨#[]⟩ (.slice none 0 0) ⟨#[]⟩ ⟨#[]⟩ ⟨#[]⟩ 0 ⟨#[]⟩)
  have hb3 := (hb1.next hb2).next hx
  have hr3 := hr.alive hb3
  go_wp2_with fail
  refine (refDecode_calls A b c _ hr3 hc hcm hl).mono ?_
  rw [HD.out]
  rintro e w4 ⟨rfl, hb4⟩
  have hX4 := hX.below hb4 hX.lt
  have hy : Below w4.heap.size w4 (w4.alloc (.cells #[.int .i64 0, .slice none 0 0, .slice none 0 0, .string ⟨#[]⟩, .slice none 0 0, .string ⟨#[]⟩, .string ⟨#[]⟩, .string ⟨#[]⟩, .int .i64 0, .string ⟨#[]⟩] 43)) := (Below.refl _ _).alloc (Nat.le_refl _) _
  have hY := Blk.new w4 43 (ocells 0 (.slice none 0 0) (.slice none 0 0) ⟨#[]⟩ (.slice none 0 0) ⟨#[]⟩ ⟨#[]⟩ ⟨#[]⟩ 0 ⟨#[]⟩)
  have hX5 := hX4.below hy hX4.lt
  have hb5 := (hb3.next hb4).next hy
  obtain ⟨c0, c1, c2, c3, c4, c5, c6, c7, c8, c9⟩ := obj_cells hX5
  obtain ⟨z0, z1, z2, z3, z4, z5, z6, z7, z8, z9⟩ := obj_cells hY
  obtain ⟨x0, x1, x2, x3, x4, x5, x6, x7, x8, x9⟩ := obj_cells hX4
  have hlt := hX4.lt
  have hne : w2.heap.size ≠ w4.heap.size := by omega
  have hne2 : ¬ w4.heap.size = w2.heap.size := by omega
  go_wp2_with fail
  refine (refSame_calls 0 none [] 0 none [] 0 ⟨#[]⟩ none [] 0 ⟨#[]⟩ ⟨#[]⟩ ⟨#[]⟩ 0 ⟨#[]⟩ 0 none [] 0 none [] 0 ⟨#[]⟩ none [] 0 ⟨#[]⟩ ⟨#[]⟩ ⟨#[]⟩ 0 ⟨#[]⟩ _ Rd.nil Rd.nil Rd.nil (Nat.zero_le _) (Nat.zero_le _) Rd.nil Rd.nil Rd.nil (Nat.zero_le _) (Nat.zero_le _)).mono ?_
  rintro e w6 ⟨u, rfl, hu, hb6⟩
  obtain rfl : u = true := hu.2 ⟨rfl, rfl, rfl, rfl, rfl, rfl, rfl, rfl, rfl, rfl⟩
  clear hu c0 c1 c2 c3 c4 c5 c6 c7 c8 c9 z0 z1 z2 z3 z4 z5 z6 z7 z8 z9 x0 x1 x2 x3 x4 x5 x6 x7 x8 x9
  go_wp2_with fail
  go_ret
  exact ⟨by first | rfl | simp, hb5.next hb6⟩

set_option maxRecDepth 100000 in
set_option maxHeartbeats 4000000 in
theorem decodes_some (A : Option Addr) (b : List UInt8) (c : Nat) (w : World) (hr : Rd w w.heap.size 1 A b.length (bc b)) (hc : b.length ≤ c) (hcm : c ≤ maxLen) (hl : b.length ≤ 140737488351232) (y : Go.Dol.Obj) (HD : Hid (decO geS b = some y)) :
    Calls Try.prog 7 #[.slice A b.length c] w fun e w' => e = .returned (.bool true) ∧ Below w.heap.size w w' := by
  go_enter Try.func7, Try.ntmps7
  go_wp2_with fail
  refine (awake_calls _).mono ?_
  rintro e w1 ⟨rfl, hb1⟩
  have hr1 := hr.alive hb1
  go_wp2_with fail
  refine (Decode_calls A b c w1 hr1 hc hcm hl).mono ?_
  rw [HD.out]
  rintro e w2 ⟨k, Ad, d, cd, Ae, en, ce, tr, Ap, pa, cp, ta, na, wh, st, te, hox, rfl, hd, he, hp, hb2, hel, hpl, hsz⟩
  have hx : Below w2.heap.size w2 (w2.alloc (.cells #[.int .i64 k, .slice Ad d.length cd, .slice Ae en.length ce, .string tr, .slice Ap pa.length cp, .string ta, .string na, .string wh, .int .i64 st, .string te] 43)) := (Below.refl _ _).alloc (Nat.le_refl _) _
  have hX := Blk.new w2 43 (ocells k (.slice Ad d.length cd) (.slice Ae en.length ce) tr (.slice Ap pa.length cp) ta na wh st te)
  have hb3 := (hb1.next hb2).next hx
  have hr3 := hr.alive hb3
  go_wp2_with fail
  refine (refDecode_calls A b c _ hr3 hc hcm hl).mono ?_
  rw [HD.out]
  rintro e w4 ⟨ky, Ady, dy, cdy, Aey, eny, cey, try', Apy, pay, cpy, tay, nay, why, sty, tey, hoy, rfl, hdy, hey, hpy, hb4, hely, hply, hszy⟩
  have hoy' := hoy.out
  rw [hox.out] at hoy'
  injection hoy' with x1 x2 x3 x4 x5 x6 x7 x8 x9 x10
  subst x1 x2 x3 x4 x5 x6 x7 x8 x9 x10
  have hX4 := hX.below hb4 hX.lt
  have hy : Below w4.heap.size w4 (w4.alloc (.cells #[.int .i64 k, .slice Ady d.length cdy, .slice Aey en.length cey, .string tr, .slice Apy pa.length cpy, .string ta, .string na, .string wh, .int .i64 st, .string te] 43)) := (Below.refl _ _).alloc (Nat.le_refl _) _
  have hY := Blk.new w4 43 (ocells k (.slice Ady d.length cdy) (.slice Aey en.length cey) tr (.slice Apy pa.length cpy) ta na wh st te)
  have hX5 := hX4.below hy hX4.lt
  have hb5 := (hb3.next hb4).next hy
  have hd5 := ((hd.1.alive hx).alive hb4).alive hy
  have he5 := ((he.1.alive hx).alive hb4).alive hy
  have hp5 := ((hp.1.alive hx).alive hb4).alive hy
  have hdy5 := hdy.1.alive hy
  have hey5 := hey.1.alive hy
  have hpy5 := hpy.1.alive hy
  obtain ⟨c0, c1, c2, c3, c4, c5, c6, c7, c8, c9⟩ := obj_cells hX5
  obtain ⟨z0, z1, z2, z3, z4, z5, z6, z7, z8, z9⟩ := obj_cells hY
  obtain ⟨x0, x1, x2, x3, x4, x5, x6, x7, x8, x9⟩ := obj_cells hX4
  have hlt := hX4.lt
  have hne : w2.heap.size ≠ w4.heap.size := by omega
  have hne2 : ¬ w4.heap.size = w2.heap.size := by omega
  clear hox hoy
  go_wp2_with fail
  refine (refSame_calls k Ad d cd Ae en ce tr Ap pa cp ta na wh st te k Ady d cdy Aey en cey tr Apy pa cpy ta na wh st te _ hd5 he5 hp5 hel hpl hdy5 hey5 hpy5 hel hpl).mono ?_
  rintro e w6 ⟨u, rfl, hu, hb6⟩
  obtain rfl : u = true := hu.2 ⟨rfl, rfl, rfl, rfl, rfl, rfl, rfl, rfl, rfl, rfl⟩
  clear hu c0 c1 c2 c3 c4 c5 c6 c7 c8 c9 z0 z1 z2 z3 z4 z5 z6 z7 z8 z9 x0 x1 x2 x3 x4 x5 x6 x7 x8 x9
  go_wp2_with fail
  go_ret
  exact ⟨by first | rfl | simp, hb5.next hb6⟩

theorem objectDecodes_walk (A : Option Addr) (b : List UInt8) (c : Nat) (w : World) (hr : Rd w w.heap.size 1 A b.length (bc b)) (hc : b.length ≤ c) (hcm : c ≤ maxLen) (hl : b.length ≤ 140737488351232) :
    Calls Try.prog 7 #[.slice A b.length c] w fun e w' => e = .returned (.bool true) ∧ Below w.heap.size w w' := by
  cases hd : decO geS b with
  | none => exact decodes_none A b c w hr hc hcm hl (Lib.hid hd)
  | some y => exact decodes_some A b c w hr hc hcm hl y (Lib.hid hd)
end Go.Proofs.Ytcefbhmmijmefaa
