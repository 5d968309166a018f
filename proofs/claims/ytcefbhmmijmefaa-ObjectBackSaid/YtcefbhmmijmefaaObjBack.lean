/- Id; the law ObjectBack: what was encoded is decoded as it was; what can be decoded is what would be encoded; its id is the hash of its bytes. Conditions: lengths below 2^47. -/
import Derived.Test.YtcefbhmmijmefaaObjKinds
import Derived.Test.YtcefbhmmijmefaaObj12
import Derived.Test.YtcefbhmmijmefaaObj17
import Derived.Test.YtcefbhmmijmefaaSum6
namespace Go.Proofs.Ytcefbhmmijmefaa
open Go.RowKit Go.Dol
set_option linter.unusedVariables false

/-- What Id hands back. -/
def RetId (w : World) (o : Go.Dol.Obj) (e : Ending) (w' : World) : Prop :=
  Below w.heap.size w w' ∧ ((checkB geS o = true ∧ ∃ l : List UInt8, Hid (l = sumOf (encO o)) ∧ e = .returned (.tuple #[.string ⟨l.toArray⟩, .int .i64 0])) ∨ (checkB geS o = false ∧ e = .returned (.tuple #[.string ⟨#[]⟩, .int .i64 1])))
set_option maxRecDepth 100000 in
set_option maxHeartbeats 2000000 in
theorem Id_calls (k : Int) (Ad : Option Addr) (d : List UInt8) (cd : Nat) (Ae : Option Addr) (en : List Ent) (ce : Nat) (tr : ByteArray) (Ap : Option Addr) (pa : List ByteArray) (cp : Nat) (ta na wh : ByteArray) (st : Int) (te : ByteArray) (w : World) (hd : Rd w w.heap.size 1 Ad d.length (bc d)) (he : Rd w w.heap.size 3 Ae en.length (ec en)) (hp : Rd w w.heap.size 1 Ap pa.length (pc pa)) (hel : en.length ≤ 140737488355328) (hpl : pa.length ≤ 140737488355328) (hsz : Hid (∀ p ∈ pa, p.size ≤ maxLen)) :
    Calls Try.prog 42 #[.agg #[.int .i64 k, .slice Ad d.length cd, .slice Ae en.length ce, .string tr, .slice Ap pa.length cp, .string ta, .string na, .string wh, .int .i64 st, .string te]] w (RetId w ⟨k, d, en, tr, pa, ta, na, wh, st, te⟩) := by
  have hb0 : Below w.heap.size w (w.alloc (.cells #[.int .i64 k, .slice Ad d.length cd, .slice Ae en.length ce, .string tr, .slice Ap pa.length cp, .string ta, .string na, .string wh, .int .i64 st, .string te] 43)) := (Below.refl _ _).alloc (Nat.le_refl _) _
  have hE := Encode_calls k Ad d cd Ae en ce tr Ap pa cp ta na wh st te _ (hd.alive hb0) (he.alive hb0) (hp.alive hb0) hel hpl hsz
  go_enter Try.func42, Try.ntmps42
  go_wp2_with fail
  refine hE.mono ?_
  rintro e w1 ⟨hb1, ⟨hc, l, A, c, el, rfl, ho⟩ | ⟨hc, rfl⟩⟩
  · have hl : l.length ≤ 5000000000 := by rw [el.out]; exact enc_small hc
    have hr := Rd.of_own ho
    have HC := Lib.hid hc
    clear hc
    go_wp2_with fail
    refine (Sum_calls A l c w1 hr (by omega)).mono ?_
    rintro e w2 ⟨s, es, rfl, hb2⟩
    go_wp2_with fail
    go_ret2
    exact ⟨(hb0.next hb1).next hb2, .inl ⟨HC.out, s, by unfold Hid; rw [es.out, el.out], rfl⟩⟩
  · have HC := Lib.hid hc
    clear hc
    go_wp2_with fail
    go_ret2
    exact ⟨hb0.next hb1, .inr ⟨HC.out, rfl⟩⟩

set_option maxRecDepth 100000 in
set_option maxHeartbeats 8000000 in
theorem back_00 (k : Int) (Ad : Option Addr) (d : List UInt8) (cd : Nat) (Ae : Option Addr) (en : List Ent) (ce : Nat) (tr : ByteArray) (Ap : Option Addr) (pa : List ByteArray) (cp : Nat) (ta na wh : ByteArray) (st : Int) (te : ByteArray) (A1 : Option Addr) (b1 : List UInt8) (c1 : Nat) (w : World) (hd : Rd w w.heap.size 1 Ad d.length (bc d)) (he : Rd w w.heap.size 3 Ae en.length (ec en)) (hp : Rd w w.heap.size 1 Ap pa.length (pc pa)) (hel : en.length ≤ 140737488355328) (hpl : pa.length ≤ 140737488355328) (hsz : Hid (∀ p ∈ pa, p.size ≤ maxLen)) (HC : Hid (checkB geS ⟨k, d, en, tr, pa, ta, na, wh, st, te⟩ = false)) (hr1 : Rd w w.heap.size 1 A1 b1.length (bc b1)) (hc1 : b1.length ≤ c1) (hm1 : c1 ≤ maxLen) (hn1 : b1.length ≤ 140737488351232) (HN : Hid (decO geS b1 = none)) :
    Calls Try.prog 12 #[.agg #[.int .i64 k, .slice Ad d.length cd, .slice Ae en.length ce, .string tr, .slice Ap pa.length cp, .string ta, .string na, .string wh, .int .i64 st, .string te], .slice A1 b1.length c1] w fun e w' => e = .returned (.bool true) ∧ Below w.heap.size w w' := by
  have hb0 : Below w.heap.size w (w.alloc (.cells #[.int .i64 k, .slice Ad d.length cd, .slice Ae en.length ce, .string tr, .slice Ap pa.length cp, .string ta, .string na, .string wh, .int .i64 st, .string te] 43)) := (Below.refl _ _).alloc (Nat.le_refl _) _
  have hB := Blk.new w 43 (ocells k (.slice Ad d.length cd) (.slice Ae en.length ce) tr (.slice Ap pa.length cp) ta na wh st te)
  go_enter Try.func12, Try.ntmps12
  go_wp2_with fail
  refine (awake_calls _).mono ?_
  rintro e w1 ⟨rfl, hb1⟩
  have hB1 := hB.below hb1 hB.lt
  have hbw := hb0.next hb1
  obtain ⟨c0, c1', c2, c3, c4, c5, c6, c7, c8, c9⟩ := obj_cells hB1
  have hd1 := hd.alive hbw
  have he1 := he.alive hbw
  have hp1 := hp.alive hbw
  go_wp2_with fail
  refine (Encode_wrong k Ad d cd Ae en ce tr Ap pa cp ta na wh st te w1 hd1 he1 hp1 hel hpl hsz HC).mono ?_
  rintro e wv ⟨rfl, hb2⟩
  have hbv := hbw.next hb2
  clear c0 c1' c2 c3 c4 c5 c6 c7 c8 c9 hd1 he1 hp1 hB hB1
  have hrv := hr1.alive hbv
  go_wp2_with fail
  refine (Decode_calls A1 b1 c1 wv hrv hc1 hm1 hn1).mono ?_
  rw [HN.out]
  rintro e w9 ⟨rfl, hb9⟩
  go_wp2_with fail
  go_ret
  exact ⟨rfl, hbv.next (hb9.alloc hb9.size _)⟩

set_option maxRecDepth 100000 in
set_option maxHeartbeats 8000000 in
theorem back_01 (k : Int) (Ad : Option Addr) (d : List UInt8) (cd : Nat) (Ae : Option Addr) (en : List Ent) (ce : Nat) (tr : ByteArray) (Ap : Option Addr) (pa : List ByteArray) (cp : Nat) (ta na wh : ByteArray) (st : Int) (te : ByteArray) (A1 : Option Addr) (b1 : List UInt8) (c1 : Nat) (w : World) (hd : Rd w w.heap.size 1 Ad d.length (bc d)) (he : Rd w w.heap.size 3 Ae en.length (ec en)) (hp : Rd w w.heap.size 1 Ap pa.length (pc pa)) (hel : en.length ≤ 140737488355328) (hpl : pa.length ≤ 140737488355328) (hsz : Hid (∀ p ∈ pa, p.size ≤ maxLen)) (HC : Hid (checkB geS ⟨k, d, en, tr, pa, ta, na, wh, st, te⟩ = false)) (hr1 : Rd w w.heap.size 1 A1 b1.length (bc b1)) (hc1 : b1.length ≤ c1) (hm1 : c1 ≤ maxLen) (hn1 : b1.length ≤ 140737488351232) (y : Go.Dol.Obj) (HY : Hid (decO geS b1 = some y)) :
    Calls Try.prog 12 #[.agg #[.int .i64 k, .slice Ad d.length cd, .slice Ae en.length ce, .string tr, .slice Ap pa.length cp, .string ta, .string na, .string wh, .int .i64 st, .string te], .slice A1 b1.length c1] w fun e w' => e = .returned (.bool true) ∧ Below w.heap.size w w' := by
  have hb0 : Below w.heap.size w (w.alloc (.cells #[.int .i64 k, .slice Ad d.length cd, .slice Ae en.length ce, .string tr, .slice Ap pa.length cp, .string ta, .string na, .string wh, .int .i64 st, .string te] 43)) := (Below.refl _ _).alloc (Nat.le_refl _) _
  have hB := Blk.new w 43 (ocells k (.slice Ad d.length cd) (.slice Ae en.length ce) tr (.slice Ap pa.length cp) ta na wh st te)
  go_enter Try.func12, Try.ntmps12
  go_wp2_with fail
  refine (awake_calls _).mono ?_
  rintro e w1 ⟨rfl, hb1⟩
  have hB1 := hB.below hb1 hB.lt
  have hbw := hb0.next hb1
  obtain ⟨c0, c1', c2, c3, c4, c5, c6, c7, c8, c9⟩ := obj_cells hB1
  have hd1 := hd.alive hbw
  have he1 := he.alive hbw
  have hp1 := hp.alive hbw
  go_wp2_with fail
  refine (Encode_wrong k Ad d cd Ae en ce tr Ap pa cp ta na wh st te w1 hd1 he1 hp1 hel hpl hsz HC).mono ?_
  rintro e wv ⟨rfl, hb2⟩
  have hbv := hbw.next hb2
  clear c0 c1' c2 c3 c4 c5 c6 c7 c8 c9 hd1 he1 hp1 hB hB1
  have hrv := hr1.alive hbv
  go_wp2_with fail
  refine (Decode_calls A1 b1 c1 wv hrv hc1 hm1 hn1).mono ?_
  rw [HY.out]
  rintro e w9 ⟨ky, Ady, dy, cdy, Aey, eny, cey, try', Apy, pay, cpy, tay, nay, why, sty, tey, hoy, rfl, hdy, hey, hpy, hb9, hely, hply, hszy⟩
  obtain ⟨hcy, hey2⟩ := dec_is HY.out
  rw [hoy.out] at hcy hey2
  have HCY := Lib.hid hcy
  have HEY := Lib.hid hey2
  clear hcy hey2
  have hbo : Below w9.heap.size w9 (w9.alloc (.cells #[.int .i64 ky, .slice Ady dy.length cdy, .slice Aey eny.length cey, .string try', .slice Apy pay.length cpy, .string tay, .string nay, .string why, .int .i64 sty, .string tey] 43)) := (Below.refl _ _).alloc (Nat.le_refl _) _
  have hY := Blk.new w9 43 (ocells ky (.slice Ady dy.length cdy) (.slice Aey eny.length cey) try' (.slice Apy pay.length cpy) tay nay why sty tey)
  obtain ⟨z0, z1, z2, z3, z4, z5, z6, z7, z8, z9⟩ := obj_cells hY
  go_wp2_with fail
  refine (Encode_calls ky Ady dy cdy Aey eny cey try' Apy pay cpy tay nay why sty tey _ (hdy.1.alive hbo) (hey.1.alive hbo) (hpy.1.alive hbo) hely hply hszy).mono ?_
  intro e w10 hR
  obtain ⟨ly, Ay, cy, ely, rfl, hoy2, hb10⟩ := RetGood.of HCY.out hR
  clear hR z0 z1 z2 z3 z4 z5 z6 z7 z8 z9
  obtain rfl : ly = b1 := by rw [ely.out, HEY.out]
  have hry := Rd.of_own hoy2
  have hrb := hrv.alive ((hb9.next hbo).next hb10)
  go_wp2_with fail
  refine (Same_calls Ay ly cy A1 ly c1 w10 _ _ hry hrb (Lib.hid rfl)).mono ?_
  rintro e w11 ⟨rfl, rfl⟩
  go_wp2_with fail
  go_ret
  exact ⟨by first | rfl | simp, hbv.next ((hb9.next hbo).next hb10)⟩

set_option maxRecDepth 100000 in
set_option maxHeartbeats 8000000 in
theorem back_10 (k : Int) (Ad : Option Addr) (d : List UInt8) (cd : Nat) (Ae : Option Addr) (en : List Ent) (ce : Nat) (tr : ByteArray) (Ap : Option Addr) (pa : List ByteArray) (cp : Nat) (ta na wh : ByteArray) (st : Int) (te : ByteArray) (A1 : Option Addr) (b1 : List UInt8) (c1 : Nat) (w : World) (hd : Rd w w.heap.size 1 Ad d.length (bc d)) (he : Rd w w.heap.size 3 Ae en.length (ec en)) (hp : Rd w w.heap.size 1 Ap pa.length (pc pa)) (hel : en.length ≤ 140737488355328) (hpl : pa.length ≤ 140737488355328) (hsz : Hid (∀ p ∈ pa, p.size ≤ maxLen)) (HC : Hid (checkB geS ⟨k, d, en, tr, pa, ta, na, wh, st, te⟩ = true)) (hr1 : Rd w w.heap.size 1 A1 b1.length (bc b1)) (hc1 : b1.length ≤ c1) (hm1 : c1 ≤ maxLen) (hn1 : b1.length ≤ 140737488351232) (HN : Hid (decO geS b1 = none)) :
    Calls Try.prog 12 #[.agg #[.int .i64 k, .slice Ad d.length cd, .slice Ae en.length ce, .string tr, .slice Ap pa.length cp, .string ta, .string na, .string wh, .int .i64 st, .string te], .slice A1 b1.length c1] w fun e w' => e = .returned (.bool true) ∧ Below w.heap.size w w' := by
  have hb0 : Below w.heap.size w (w.alloc (.cells #[.int .i64 k, .slice Ad d.length cd, .slice Ae en.length ce, .string tr, .slice Ap pa.length cp, .string ta, .string na, .string wh, .int .i64 st, .string te] 43)) := (Below.refl _ _).alloc (Nat.le_refl _) _
  have hB := Blk.new w 43 (ocells k (.slice Ad d.length cd) (.slice Ae en.length ce) tr (.slice Ap pa.length cp) ta na wh st te)
  go_enter Try.func12, Try.ntmps12
  go_wp2_with fail
  refine (awake_calls _).mono ?_
  rintro e w1 ⟨rfl, hb1⟩
  have hB1 := hB.below hb1 hB.lt
  have hbw := hb0.next hb1
  obtain ⟨c0, c1', c2, c3, c4, c5, c6, c7, c8, c9⟩ := obj_cells hB1
  have hd1 := hd.alive hbw
  have he1 := he.alive hbw
  have hp1 := hp.alive hbw
  go_wp2_with fail
  refine (Encode_calls k Ad d cd Ae en ce tr Ap pa cp ta na wh st te w1 hd1 he1 hp1 hel hpl hsz).mono ?_
  intro e w2 hR
  obtain ⟨l, A, c, el, rfl, ho, hb2⟩ := RetGood.of HC.out hR
  clear hR
  have hB2 := hB1.below hb2 hB1.lt
  obtain ⟨hlc, hcm⟩ := own_le ho
  have hr2 := Rd.of_own ho
  have hls : l.length ≤ 5000000000 := by rw [el.out]; exact enc_small HC.out
  have hdec : Hid (decO geS l = some ⟨k, d, en, tr, pa, ta, na, wh, st, te⟩) := by unfold Hid; rw [el.out]; exact dec_enc HC.out
  clear c0 c1' c2 c3 c4 c5 c6 c7 c8 c9
  go_wp2_with fail
  refine (Decode_calls A l c w2 hr2 hlc hcm (by omega)).mono ?_
  rw [hdec.out]
  rintro e w3 ⟨kx, Adx, dx, cdx, Aex, enx, cex, trx, Apx, pax, cpx, tax, nax, whx, stx, tex, hox, rfl, hdx, hex, hpx, hb3, helx, hplx, hszx⟩
  have hox' := hox.out
  injection hox' with x1 x2 x3 x4 x5 x6 x7 x8 x9 x10
  subst x1 x2 x3 x4 x5 x6 x7 x8 x9 x10
  clear hox
  have hb4 : Below w3.heap.size w3 (w3.alloc (.cells #[.int .i64 k, .slice Adx d.length cdx, .slice Aex en.length cex, .string tr, .slice Apx pa.length cpx, .string ta, .string na, .string wh, .int .i64 st, .string te] 43)) := (Below.refl _ _).alloc (Nat.le_refl _) _
  have hX := Blk.new w3 43 (ocells k (.slice Adx d.length cdx) (.slice Aex en.length cex) tr (.slice Apx pa.length cpx) ta na wh st te)
  have hb24 := hb3.next hb4
  have hB4 := hB2.below hb24 hB2.lt
  obtain ⟨u0, u1, u2, u3, u4, u5, u6, u7, u8, u9⟩ := obj_cells hB4
  have hb14 := hb2.next hb24
  have hd4 := hd1.alive hb14
  have he4 := he1.alive hb14
  have hp4 := hp1.alive hb14
  go_wp2_with fail
  refine (Id_calls k Ad d cd Ae en ce tr Ap pa cp ta na wh st te _ hd4 he4 hp4 hel hpl hsz).mono ?_
  rintro e w5 ⟨hb5, ⟨_, si, esi, rfl⟩ | ⟨hbad, _⟩⟩
  case inr =>
    rw [HC.out] at hbad
    cases hbad
  have hB5 := hB4.below hb5 hB4.lt
  have hX5 := hX.below hb5 hX.lt
  have hdx5 := hdx.1.alive (hb4.next hb5)
  have hex5 := hex.1.alive (hb4.next hb5)
  have hpx5 := hpx.1.alive (hb4.next hb5)
  have hd5 := hd4.alive hb5
  have he5 := he4.alive hb5
  have hp5 := hp4.alive hb5
  have hr5 := hr2.alive (hb24.next hb5)
  clear u0 u1 u2 u3 u4 u5 u6 u7 u8 u9
  obtain ⟨c0, c1', c2, c3, c4, c5, c6, c7, c8, c9⟩ := obj_cells hB5
  obtain ⟨z0, z1, z2, z3, z4, z5, z6, z7, z8, z9⟩ := obj_cells hX5
  go_wp2_with fail
  refine (refSame_calls k Adx d cdx Aex en cex tr Apx pa cpx ta na wh st te k Ad d cd Ae en ce tr Ap pa cp ta na wh st te w5 hdx5 hex5 hpx5 hel hpl hd5 he5 hp5 hel hpl).mono ?_
  rintro e w6 ⟨u, rfl, hu, hb6⟩
  obtain rfl : u = true := hu.2 ⟨rfl, rfl, rfl, rfl, rfl, rfl, rfl, rfl, rfl, rfl⟩
  have hr6 := hr5.alive hb6
  clear hu c0 c1' c2 c3 c4 c5 c6 c7 c8 c9 z0 z1 z2 z3 z4 z5 z6 z7 z8 z9
  go_wp2_with fail
  refine (Sum_calls A l c w6 hr6 (by omega)).mono ?_
  rintro e wv ⟨s2, es2, rfl, hb7⟩
  obtain rfl : s2 = si := by rw [es2.out, esi.out, el.out]
  have hbv := (hbw.next hb14).next ((hb5.next hb6).next hb7)
  clear hB hB1 hB2 hB4 hB5 hX hX5 hd1 he1 hp1 hd4 he4 hp4 hd5 he5 hp5 hdx5 hex5 hpx5 hr2 hr5 hr6 ho hdx hex hpx hb1 hb2 hb3 hb4 hb5 hb6 hb7 hb24 hb14
  have hrv := hr1.alive hbv
  go_wp2_with fail
  refine (Decode_calls A1 b1 c1 wv hrv hc1 hm1 hn1).mono ?_
  rw [HN.out]
  rintro e w9 ⟨rfl, hb9⟩
  go_wp2_with fail
  go_ret
  exact ⟨rfl, hbv.next (hb9.alloc hb9.size _)⟩

set_option maxRecDepth 100000 in
set_option maxHeartbeats 8000000 in
theorem back_11 (k : Int) (Ad : Option Addr) (d : List UInt8) (cd : Nat) (Ae : Option Addr) (en : List Ent) (ce : Nat) (tr : ByteArray) (Ap : Option Addr) (pa : List ByteArray) (cp : Nat) (ta na wh : ByteArray) (st : Int) (te : ByteArray) (A1 : Option Addr) (b1 : List UInt8) (c1 : Nat) (w : World) (hd : Rd w w.heap.size 1 Ad d.length (bc d)) (he : Rd w w.heap.size 3 Ae en.length (ec en)) (hp : Rd w w.heap.size 1 Ap pa.length (pc pa)) (hel : en.length ≤ 140737488355328) (hpl : pa.length ≤ 140737488355328) (hsz : Hid (∀ p ∈ pa, p.size ≤ maxLen)) (HC : Hid (checkB geS ⟨k, d, en, tr, pa, ta, na, wh, st, te⟩ = true)) (hr1 : Rd w w.heap.size 1 A1 b1.length (bc b1)) (hc1 : b1.length ≤ c1) (hm1 : c1 ≤ maxLen) (hn1 : b1.length ≤ 140737488351232) (y : Go.Dol.Obj) (HY : Hid (decO geS b1 = some y)) :
    Calls Try.prog 12 #[.agg #[.int .i64 k, .slice Ad d.length cd, .slice Ae en.length ce, .string tr, .slice Ap pa.length cp, .string ta, .string na, .string wh, .int .i64 st, .string te], .slice A1 b1.length c1] w fun e w' => e = .returned (.bool true) ∧ Below w.heap.size w w' := by
  have hb0 : Below w.heap.size w (w.alloc (.cells #[.int .i64 k, .slice Ad d.length cd, .slice Ae en.length ce, .string tr, .slice Ap pa.length cp, .string ta, .string na, .string wh, .int .i64 st, .string te] 43)) := (Below.refl _ _).alloc (Nat.le_refl _) _
  have hB := Blk.new w 43 (ocells k (.slice Ad d.length cd) (.slice Ae en.length ce) tr (.slice Ap pa.length cp) ta na wh st te)
  go_enter Try.func12, Try.ntmps12
  go_wp2_with fail
  refine (awake_calls _).mono ?_
  rintro e w1 ⟨rfl, hb1⟩
  have hB1 := hB.below hb1 hB.lt
  have hbw := hb0.next hb1
  obtain ⟨c0, c1', c2, c3, c4, c5, c6, c7, c8, c9⟩ := obj_cells hB1
  have hd1 := hd.alive hbw
  have he1 := he.alive hbw
  have hp1 := hp.alive hbw
  go_wp2_with fail
  refine (Encode_calls k Ad d cd Ae en ce tr Ap pa cp ta na wh st te w1 hd1 he1 hp1 hel hpl hsz).mono ?_
  intro e w2 hR
  obtain ⟨l, A, c, el, rfl, ho, hb2⟩ := RetGood.of HC.out hR
  clear hR
  have hB2 := hB1.below hb2 hB1.lt
  obtain ⟨hlc, hcm⟩ := own_le ho
  have hr2 := Rd.of_own ho
  have hls : l.length ≤ 5000000000 := by rw [el.out]; exact enc_small HC.out
  have hdec : Hid (decO geS l = some ⟨k, d, en, tr, pa, ta, na, wh, st, te⟩) := by unfold Hid; rw [el.out]; exact dec_enc HC.out
  clear c0 c1' c2 c3 c4 c5 c6 c7 c8 c9
  go_wp2_with fail
  refine (Decode_calls A l c w2 hr2 hlc hcm (by omega)).mono ?_
  rw [hdec.out]
  rintro e w3 ⟨kx, Adx, dx, cdx, Aex, enx, cex, trx, Apx, pax, cpx, tax, nax, whx, stx, tex, hox, rfl, hdx, hex, hpx, hb3, helx, hplx, hszx⟩
  have hox' := hox.out
  injection hox' with x1 x2 x3 x4 x5 x6 x7 x8 x9 x10
  subst x1 x2 x3 x4 x5 x6 x7 x8 x9 x10
  clear hox
  have hb4 : Below w3.heap.size w3 (w3.alloc (.cells #[.int .i64 k, .slice Adx d.length cdx, .slice Aex en.length cex, .string tr, .slice Apx pa.length cpx, .string ta, .string na, .string wh, .int .i64 st, .string te] 43)) := (Below.refl _ _).alloc (Nat.le_refl _) _
  have hX := Blk.new w3 43 (ocells k (.slice Adx d.length cdx) (.slice Aex en.length cex) tr (.slice Apx pa.length cpx) ta na wh st te)
  have hb24 := hb3.next hb4
  have hB4 := hB2.below hb24 hB2.lt
  obtain ⟨u0, u1, u2, u3, u4, u5, u6, u7, u8, u9⟩ := obj_cells hB4
  have hb14 := hb2.next hb24
  have hd4 := hd1.alive hb14
  have he4 := he1.alive hb14
  have hp4 := hp1.alive hb14
  go_wp2_with fail
  refine (Id_calls k Ad d cd Ae en ce tr Ap pa cp ta na wh st te _ hd4 he4 hp4 hel hpl hsz).mono ?_
  rintro e w5 ⟨hb5, ⟨_, si, esi, rfl⟩ | ⟨hbad, _⟩⟩
  case inr =>
    rw [HC.out] at hbad
    cases hbad
  have hB5 := hB4.below hb5 hB4.lt
  have hX5 := hX.below hb5 hX.lt
  have hdx5 := hdx.1.alive (hb4.next hb5)
  have hex5 := hex.1.alive (hb4.next hb5)
  have hpx5 := hpx.1.alive (hb4.next hb5)
  have hd5 := hd4.alive hb5
  have he5 := he4.alive hb5
  have hp5 := hp4.alive hb5
  have hr5 := hr2.alive (hb24.next hb5)
  clear u0 u1 u2 u3 u4 u5 u6 u7 u8 u9
  obtain ⟨c0, c1', c2, c3, c4, c5, c6, c7, c8, c9⟩ := obj_cells hB5
  obtain ⟨z0, z1, z2, z3, z4, z5, z6, z7, z8, z9⟩ := obj_cells hX5
  go_wp2_with fail
  refine (refSame_calls k Adx d cdx Aex en cex tr Apx pa cpx ta na wh st te k Ad d cd Ae en ce tr Ap pa cp ta na wh st te w5 hdx5 hex5 hpx5 hel hpl hd5 he5 hp5 hel hpl).mono ?_
  rintro e w6 ⟨u, rfl, hu, hb6⟩
  obtain rfl : u = true := hu.2 ⟨rfl, rfl, rfl, rfl, rfl, rfl, rfl, rfl, rfl, rfl⟩
  have hr6 := hr5.alive hb6
  clear hu c0 c1' c2 c3 c4 c5 c6 c7 c8 c9 z0 z1 z2 z3 z4 z5 z6 z7 z8 z9
  go_wp2_with fail
  refine (Sum_calls A l c w6 hr6 (by omega)).mono ?_
  rintro e wv ⟨s2, es2, rfl, hb7⟩
  obtain rfl : s2 = si := by rw [es2.out, esi.out, el.out]
  have hbv := (hbw.next hb14).next ((hb5.next hb6).next hb7)
  clear hB hB1 hB2 hB4 hB5 hX hX5 hd1 he1 hp1 hd4 he4 hp4 hd5 he5 hp5 hdx5 hex5 hpx5 hr2 hr5 hr6 ho hdx hex hpx hb1 hb2 hb3 hb4 hb5 hb6 hb7 hb24 hb14
  have hrv := hr1.alive hbv
  go_wp2_with fail
  refine (Decode_calls A1 b1 c1 wv hrv hc1 hm1 hn1).mono ?_
  rw [HY.out]
  rintro e w9 ⟨ky, Ady, dy, cdy, Aey, eny, cey, try', Apy, pay, cpy, tay, nay, why, sty, tey, hoy, rfl, hdy, hey, hpy, hb9, hely, hply, hszy⟩
  obtain ⟨hcy, hey2⟩ := dec_is HY.out
  rw [hoy.out] at hcy hey2
  have HCY := Lib.hid hcy
  have HEY := Lib.hid hey2
  clear hcy hey2
  have hbo : Below w9.heap.size w9 (w9.alloc (.cells #[.int .i64 ky, .slice Ady dy.length cdy, .slice Aey eny.length cey, .string try', .slice Apy pay.length cpy, .string tay, .string nay, .string why, .int .i64 sty, .string tey] 43)) := (Below.refl _ _).alloc (Nat.le_refl _) _
  have hY := Blk.new w9 43 (ocells ky (.slice Ady dy.length cdy) (.slice Aey eny.length cey) try' (.slice Apy pay.length cpy) tay nay why sty tey)
  obtain ⟨z0, z1, z2, z3, z4, z5, z6, z7, z8, z9⟩ := obj_cells hY
  go_wp2_with fail
  refine (Encode_calls ky Ady dy cdy Aey eny cey try' Apy pay cpy tay nay why sty tey _ (hdy.1.alive hbo) (hey.1.alive hbo) (hpy.1.alive hbo) hely hply hszy).mono ?_
  intro e w10 hR
  obtain ⟨ly, Ay, cy, ely, rfl, hoy2, hb10⟩ := RetGood.of HCY.out hR
  clear hR z0 z1 z2 z3 z4 z5 z6 z7 z8 z9
  obtain rfl : ly = b1 := by rw [ely.out, HEY.out]
  have hry := Rd.of_own hoy2
  have hrb := hrv.alive ((hb9.next hbo).next hb10)
  go_wp2_with fail
  refine (Same_calls Ay ly cy A1 ly c1 w10 _ _ hry hrb (Lib.hid rfl)).mono ?_
  rintro e w11 ⟨rfl, rfl⟩
  go_wp2_with fail
  go_ret
  exact ⟨by first | rfl | simp, hbv.next ((hb9.next hbo).next hb10)⟩

theorem objectBack_walk (k : Int) (Ad : Option Addr) (d : List UInt8) (cd : Nat) (Ae : Option Addr) (en : List Ent) (ce : Nat) (tr : ByteArray) (Ap : Option Addr) (pa : List ByteArray) (cp : Nat) (ta na wh : ByteArray) (st : Int) (te : ByteArray) (A1 : Option Addr) (b1 : List UInt8) (c1 : Nat) (w : World) (hd : Rd w w.heap.size 1 Ad d.length (bc d)) (he : Rd w w.heap.size 3 Ae en.length (ec en)) (hp : Rd w w.heap.size 1 Ap pa.length (pc pa)) (hel : en.length ≤ 140737488355328) (hpl : pa.length ≤ 140737488355328) (hsz : Hid (∀ p ∈ pa, p.size ≤ maxLen)) (wk : (Lit.int .i64 k).wf = true) (ws : (Lit.int .i64 st).wf = true) (hr1 : Rd w w.heap.size 1 A1 b1.length (bc b1)) (hc1 : b1.length ≤ c1) (hm1 : c1 ≤ maxLen) (hn1 : b1.length ≤ 140737488351232) :
    Calls Try.prog 12 #[.agg #[.int .i64 k, .slice Ad d.length cd, .slice Ae en.length ce, .string tr, .slice Ap pa.length cp, .string ta, .string na, .string wh, .int .i64 st, .string te], .slice A1 b1.length c1] w fun e w' => e = .returned (.bool true) ∧ Below w.heap.size w w' := by
  cases hc : checkB geS ⟨k, d, en, tr, pa, ta, na, wh, st, te⟩ with
  | false =>
    cases hdc : decO geS b1 with
    | none => exact back_00 k Ad d cd Ae en ce tr Ap pa cp ta na wh st te A1 b1 c1 w hd he hp hel hpl hsz (Lib.hid hc) hr1 hc1 hm1 hn1 (Lib.hid hdc)
    | some y => exact back_01 k Ad d cd Ae en ce tr Ap pa cp ta na wh st te A1 b1 c1 w hd he hp hel hpl hsz (Lib.hid hc) hr1 hc1 hm1 hn1 y (Lib.hid hdc)
  | true =>
    cases hdc : decO geS b1 with
    | none => exact back_10 k Ad d cd Ae en ce tr Ap pa cp ta na wh st te A1 b1 c1 w hd he hp hel hpl hsz (Lib.hid hc) hr1 hc1 hm1 hn1 (Lib.hid hdc)
    | some y => exact back_11 k Ad d cd Ae en ce tr Ap pa cp ta na wh st te A1 b1 c1 w hd he hp hel hpl hsz (Lib.hid hc) hr1 hc1 hm1 hn1 y (Lib.hid hdc)
end Go.Proofs.Ytcefbhmmijmefaa
