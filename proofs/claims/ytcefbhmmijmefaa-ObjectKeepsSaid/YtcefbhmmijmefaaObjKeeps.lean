/- The law ObjectKeeps: an object that is handed in is as it was; what is done to what was answered turns nothing of it. Conditions: lengths below 2^47. -/
import Derived.Test.YtcefbhmmijmefaaObjKinds
import Derived.Test.YtcefbhmmijmefaaObj13
import Derived.Test.YtcefbhmmijmefaaObj17
namespace Go.Dol
open Go.RowKit
/-- A store into a row that the call owns. -/
theorem own_set {w : World} {base : Nat} {e : TypeId} {g n c : Nat} {xs : List Value} (h : w.ownsRow base e 1 (.slice (some ⟨g, 0, none⟩) n c) n xs) {k : Nat} (hk : k < n) (u : Value) :
    (w.setCell ⟨g, k, none⟩ u).ownsRow base e 1 (.slice (some ⟨g, 0, none⟩) n c) n (xs.set k u) ∧ w.grownBy (w.setCell ⟨g, k, none⟩ u) (some g) ∧ w.frozen? ⟨g, k, none⟩ = false ∧ w.cell? ⟨g, k, none⟩ = xs[k]? ∧ base ≤ g ∧ g < w.heap.size := by
  rcases h.2 with ⟨h1, _⟩ | ⟨g', cap, cur, h1, h2, h3, h4, h5, h6, h7⟩
  · injection h1 with h1
    cases h1
  · injection h1 with hA _ hc
    injection hA with hA
    injection hA with hA _ _
    subst hA
    subst hc
    have hB : Blk w g e cur.toList := by unfold Blk; rw [h3]
    have hB2 := hB.set k u
    have hkc : k < cur.size := by omega
    refine ⟨⟨by rw [List.length_set]; exact h.1, .inr ⟨g, c, (cur.toList.set k u).toArray, rfl, h2, hB2, h4, h5, by simpa using h6, ?_⟩⟩, grown_setCell (World.grownBy.refl w _) k u, hB.free k, ?_, h2, hB.lt⟩
    · rw [← h7, List.take_set]
    · rw [hB.cell, ← h7, List.getElem?_take, if_pos (by omega)]
/-- What reads in blocks from 'base' on, behind a write below them. -/
theorem rd_apart {w w' : World} {B base size k : Nat} {A : Option Addr} {n : Nat} {xs : List Value} (h : Rd w B size A n xs) (hf : 0 < n → ∀ j, segBlock A = some j → base ≤ j) (hB : B ≤ w.heap.size) (hg : w.grownBy w' (some k)) (hk : k < base) : Rd w' B size A n xs := by
  refine ⟨h.len, fun hn => ?_⟩
  obtain ⟨b, off, e, hb, hc⟩ := h.at_ hn
  have h2 := hf hn b (by rw [e]; rfl)
  exact ⟨b, off, e, hb, fun j u hu => (World.cell?_of_block (hg.block b (by omega) (fun e2 => by injection e2 with e2; omega))).trans (hc j u hu)⟩
end Go.Dol
namespace Go.Proofs.Ytcefbhmmijmefaa
open Go.RowKit Go.Dol
set_option linter.unusedVariables false

theorem links_len (o : Go.Dol.Obj) : (linksO o).length = if o.kind = 2 then o.ents.length else if o.kind = 3 then 1 + o.pars.length else if o.kind = 4 then 1 else 0 := by
  unfold linksO
  split
  · simp
  · split
    · simp; omega
    · split <;> rfl
theorem links_few {o : Go.Dol.Obj} (h : checkB geS o = true) : (if o.kind = 2 then o.ents.length else if o.kind = 3 then 1 + o.pars.length else if o.kind = 4 then 1 else 0) ≤ 140737488355328 := by
  rcases check_kind h with e | e | e | e
  · rw [if_neg (by omega), if_neg (by omega), if_neg (by omega)]
    omega
  · rw [if_pos e]
    have := (entsB_parts (check2_parts e h)).2
    omega
  · rw [if_neg (by omega), if_pos e]
    have := (parsB_parts (check3_parts e h).2.1).2
    omega
  · rw [if_neg (by omega), if_neg (by omega), if_pos e]
    omega
def ByteRel (base g n c : Nat) (w : World) (i : Value) (wr : World) : Prop :=
  ∃ (k : Nat) (xs : List Value), i = .int .i64 k ∧ k ≤ n ∧ wr.ownsRow base 5 1 (.slice (some ⟨g, 0, none⟩) n c) n xs ∧ Hid (∀ j, j < n → ∃ x : Int, xs[j]? = some (.int .u8 x)) ∧ w.grownBy wr (some g)
def TextRel (base : Nat) (A : Option Addr) (n c : Nat) (w : World) (i : Value) (wr : World) : Prop :=
  ∃ (k : Nat) (xs : List Value), i = .int .i64 k ∧ k ≤ n ∧ wr.ownsRow base 9 1 (.slice A n c) n xs ∧ Below base w wr

set_option maxRecDepth 100000 in
set_option maxHeartbeats 4000000 in
theorem keeps_wrong (k : Int) (Ad : Option Addr) (d : List UInt8) (cd : Nat) (Ae : Option Addr) (en : List Ent) (ce : Nat) (tr : ByteArray) (Ap : Option Addr) (pa : List ByteArray) (cp : Nat) (ta na wh : ByteArray) (st : Int) (te : ByteArray) (w : World) (hd : Rd w w.heap.size 1 Ad d.length (bc d)) (he : Rd w w.heap.size 3 Ae en.length (ec en)) (hp : Rd w w.heap.size 1 Ap pa.length (pc pa)) (hel : en.length ≤ 140737488355328) (hpl : pa.length ≤ 140737488355328) (hsz : Hid (∀ p ∈ pa, p.size ≤ maxLen)) (HC : Hid (checkB geS ⟨k, d, en, tr, pa, ta, na, wh, st, te⟩ = false)) :
    Calls Try.prog 10 #[.agg #[.int .i64 k, .slice Ad d.length cd, .slice Ae en.length ce, .string tr, .slice Ap pa.length cp, .string ta, .string na, .string wh, .int .i64 st, .string te]] w fun e w' => e = .returned (.bool true) ∧ Below w.heap.size w w' := by
  have hb0 : Below w.heap.size w (w.alloc (.cells #[.int .i64 k, .slice Ad d.length cd, .slice Ae en.length ce, .string tr, .slice Ap pa.length cp, .string ta, .string na, .string wh, .int .i64 st, .string te] 43)) := (Below.refl _ _).alloc (Nat.le_refl _) _
  have hB := Blk.new w 43 (ocells k (.slice Ad d.length cd) (.slice Ae en.length ce) tr (.slice Ap pa.length cp) ta na wh st te)
  go_enter Try.func10, Try.ntmps10
  go_wp2_with fail
  refine (awake_calls _).mono ?_
  rintro e w1 ⟨rfl, hb1⟩
  have hB1 := hB.below hb1 hB.lt
  have hbw := hb0.next hb1
  obtain ⟨c0, c1, c2, c3, c4, c5, c6, c7, c8, c9⟩ := obj_cells hB1
  have hd1 := hd.alive hbw
  have he1 := he.alive hbw
  have hp1 := hp.alive hbw
  go_wp2_with fail
  refine (Encode_wrong k Ad d cd Ae en ce tr Ap pa cp ta na wh st te w1 hd1 he1 hp1 hel hpl hsz HC).mono ?_
  rintro e w2 ⟨rfl, hb2⟩
  go_wp2_with fail
  go_ret
  exact ⟨rfl, hbw.next hb2⟩

set_option maxRecDepth 100000 in
set_option maxHeartbeats 8000000 in
theorem keeps_right (k : Int) (Ad : Option Addr) (d : List UInt8) (cd : Nat) (Ae : Option Addr) (en : List Ent) (ce : Nat) (tr : ByteArray) (Ap : Option Addr) (pa : List ByteArray) (cp : Nat) (ta na wh : ByteArray) (st : Int) (te : ByteArray) (w : World) (hd : Rd w w.heap.size 1 Ad d.length (bc d)) (he : Rd w w.heap.size 3 Ae en.length (ec en)) (hp : Rd w w.heap.size 1 Ap pa.length (pc pa)) (hel : en.length ≤ 140737488355328) (hpl : pa.length ≤ 140737488355328) (hsz : Hid (∀ p ∈ pa, p.size ≤ maxLen)) (HC : Hid (checkB geS ⟨k, d, en, tr, pa, ta, na, wh, st, te⟩ = true)) :
    Calls Try.prog 10 #[.agg #[.int .i64 k, .slice Ad d.length cd, .slice Ae en.length ce, .string tr, .slice Ap pa.length cp, .string ta, .string na, .string wh, .int .i64 st, .string te]] w fun e w' => e = .returned (.bool true) ∧ Below w.heap.size w w' := by
  have hb0 : Below w.heap.size w (w.alloc (.cells #[.int .i64 k, .slice Ad d.length cd, .slice Ae en.length ce, .string tr, .slice Ap pa.length cp, .string ta, .string na, .string wh, .int .i64 st, .string te] 43)) := (Below.refl _ _).alloc (Nat.le_refl _) _
  have hB := Blk.new w 43 (ocells k (.slice Ad d.length cd) (.slice Ae en.length ce) tr (.slice Ap pa.length cp) ta na wh st te)
  go_enter Try.func10, Try.ntmps10
  go_wp2_with fail
  refine (awake_calls _).mono ?_
  rintro e w1 ⟨rfl, hb1⟩
  have hB1 := hB.below hb1 hB.lt
  have hbw := hb0.next hb1
  obtain ⟨c0, c1, c2, c3, c4, c5, c6, c7, c8, c9⟩ := obj_cells hB1
  have hd1 := hd.alive hbw
  have he1 := he.alive hbw
  have hp1 := hp.alive hbw
  go_wp2_with fail
  refine (Encode_calls k Ad d cd Ae en ce tr Ap pa cp ta na wh st te w1 hd1 he1 hp1 hel hpl hsz).mono ?_
  intro e w2 hR
  obtain ⟨l, A, c, el, rfl, ho, hb2⟩ := RetGood.of HC.out hR
  clear hR
  have hB2 := hB1.below hb2 hB1.lt
  obtain ⟨hlc, hcm⟩ := own_le ho
  have hr2 := Rd.of_own ho
  have hls : l.length ≤ 5000000000 := by rw [el.out]; exact enc_small HC.out
  have v1 : (convert 22 9 (.slice A l.length c)).run Try.prog w2 = .ok (.string ⟨l.toArray⟩) w2 := conv8f hr2
  have hdec : Hid (decO geS l = some ⟨k, d, en, tr, pa, ta, na, wh, st, te⟩) := by unfold Hid; rw [el.out]; exact dec_enc HC.out
  clear c0 c1 c2 c3 c4 c5 c6 c7 c8 c9
  go_wp2_with fail
  refine (Decode_calls A l c w2 hr2 hlc hcm (by omega)).mono ?_
  rw [hdec.out]
  rintro e w3 ⟨kx, Adx, dx, cdx, Aex, enx, cex, trx, Apx, pax, cpx, tax, nax, whx, stx, tex, hox, rfl, hdx, hex, hpx, hb3, helx, hplx, hszx⟩
  have hox' := hox.out
  injection hox' with x1 x2 x3 x4 x5 x6 x7 x8 x9 x10
  subst x1 x2 x3 x4 x5 x6 x7 x8 x9 x10
  clear hox
  have hb4 : Below w3.heap.size w3 (w3.alloc (.cells #[.int .i64 k, .slice Adx d.length cdx, .slice Aex en.length cex, .string tr, .slice Apx pa.length cpx, .string ta, .string na, .string wh, .int .i64 st, .string te] 43)) := (Below.refl _ _).alloc (Nat.le_refl _) _
  have hX := Blk.new w3 43 (ocells k (.slice Adx d.length cdx) (.slice Aex en.length cex) tr (.slice Apx pa.length cpx) ta na wh st te)
  have hb24 := hb3.next hb4
  have hB4 := hB2.below hb24 hB2.lt
  obtain ⟨b0, b1, b2, b3, b4, b5, b6, b7, b8, b9⟩ := obj_cells hB4
  have hb14 := hb2.next hb24
  have hd4 := hd1.alive hb14
  have he4 := he1.alive hb14
  have hp4 := hp1.alive hb14
  go_wp2_with fail
  refine (Links_right k Ad d cd Ae en ce tr Ap pa cp ta na wh st te _ hd4 he4 hp4 hel hpl hsz HC).mono ?_
  rintro e w5 ⟨L, AL, cL, eL, rfl, hoL, hb5⟩
  clear b0 b1 b2 b3 b4 b5 b6 b7 b8 b9 v1
  have hb25 := hb24.next hb5
  have ho5 := own_belowW ho hb25
  have hL0 : 0 < l.length := by rw [el.out]; exact Nat.succ_pos _
  obtain ⟨ga, hA, hga1, hga2⟩ : ∃ ga, A = some ⟨ga, 0, none⟩ ∧ w1.heap.size ≤ ga ∧ ga < w2.heap.size := by
    obtain ⟨g', tl, e1, h1, h2⟩ := blk_of_own ho hL0
    exact ⟨g', e1, h1, h2.lt⟩
  subst hA
  obtain ⟨n, hn⟩ : ∃ n, n = l.length := ⟨_, rfl⟩
  rw [← hn] at ho5 ⊢
  have hbytes : Hid (∀ j, j < n → ∃ x : Int, (bc l)[j]? = some (.int .u8 x)) := fun j hj => ⟨_, bc_get l j (by omega)⟩
  have hnl : n ≤ 5000000000 := by omega
  have HN := Lib.hid hn
  clear hn hL0 hr2
  go_wp2_with fail
  go_loopw [10] (fun i wr => ByteRel w1.heap.size ga n c w5 i wr) (fun i _ => n - (intOf i).toNat)
  case atStart => exact ⟨0, bc l, rfl, Nat.zero_le _, ho5, hbytes, World.grownBy.refl _ _⟩
  case round =>
    clear ho5 hbytes
    obtain ⟨k', xs, rfl, hk, hown, hby, hgr⟩ := hrel
    have f1 : IntKind.i64.wrap ((k' : Int) + 1) = (k' : Int) + 1 := IntWalk.i64_in _ (by omega)
    by_cases h1 : k' < n
    · have d1 : decide ((k' : Int) < (n : Int)) = true := decide_eq_true (by omega)
      have d1' : (k' : Int) < (n : Int) := by omega
      have hk0 : (0 : Int) ≤ (k' : Int) := by omega
      have hlen1 : n ≤ 9223372036854775807 := by omega
      obtain ⟨x, hx⟩ := hby.out k' h1
      obtain ⟨o1, o2, o3, o4, _, _⟩ := own_set hown h1 (.int .u8 (IntKind.u8.wrap (x + 1)))
      rw [hx] at o4
      have hxl : xs.length = n * 1 := hown.1
      have hby2 : Hid (∀ j, j < n → ∃ x' : Int, (xs.set k' (.int .u8 (IntKind.u8.wrap (x + 1))))[j]? = some (.int .u8 x')) := fun j hj => by
        by_cases hjk : k' = j
        · subst hjk
          exact ⟨_, by rw [List.getElem?_set_self (by omega)]⟩
        · rw [List.getElem?_set_ne hjk]
          exact hby.out j hj
      have O1 := Lib.hid o1
      clear hx hown o1
      go_wp2_with fail
      exact ⟨⟨k' + 1, _, by go_num, h1, O1.out, hby2, grown_step hgr o2⟩, by simp [intOf]; omega⟩
    · have d1 : decide ((k' : Int) < (n : Int)) = false := decide_eq_false (by omega)
      have d1' : ¬ (k' : Int) < (n : Int) := by omega
      have s24 := hb24.size
      have s3 := hb3.size
      have s4 : (w3.alloc (.cells #[.int .i64 k, .slice Adx d.length cdx, .slice Aex en.length cex, .string tr, .slice Apx pa.length cpx, .string ta, .string na, .string wh, .int .i64 st, .string te] 43)).heap.size = w3.heap.size + 1 := by simp
      have s5 := hb5.size
      have hoL6 : wr.ownsRow (w3.heap.size + 1) 9 1 (.slice AL L.length cL) L.length (pc L) := by
        rw [s4] at hoL
        refine hoL.kept hgr (.inr fun e => ?_)
        have := (hoL.lt ga e).1
        omega
      clear hown hby
      go_wp2_with fail
      obtain ⟨w6, hw6⟩ : ∃ w6, w6 = wr := ⟨_, rfl⟩
      rw [← hw6] at hgr hoL6 ⊢
      clear hw6
      go_loopw [11] (fun i wr => TextRel (w3.heap.size + 1) AL L.length cL w6 i wr) (fun i _ => L.length - (intOf i).toNat)
      case atStart => exact ⟨0, pc L, rfl, Nat.zero_le _, hoL6, Below.refl _ _⟩
      case round =>
        clear hoL6
        obtain ⟨k2, xs2, rfl, hk2, hown2, hbl⟩ := hrel
        have hLl : L.length ≤ 140737488355328 := by rw [eL.out, links_len]; exact links_few HC.out
        have f2 : IntKind.i64.wrap ((k2 : Int) + 1) = (k2 : Int) + 1 := IntWalk.i64_in _ (by omega)
        by_cases h2 : k2 < L.length
        · have d2 : decide ((k2 : Int) < (L.length : Int)) = true := decide_eq_true (by omega)
          have d2' : (k2 : Int) < (L.length : Int) := by omega
          have hk0 : (0 : Int) ≤ (k2 : Int) := by omega
          have hlen1 : L.length ≤ 9223372036854775807 := by omega
          obtain ⟨gl, tl, hAL, hgl1, hgl2⟩ := blk_of_own hown2 (by omega)
          subst hAL
          obtain ⟨o1, o2, o3, o4, o5, o6⟩ := own_set hown2 h2 (.string ⟨#[]⟩)
          have hxl : xs2.length = L.length * 1 := hown2.1
          rw [List.getElem?_eq_getElem (by omega)] at o4
          have O1 := Lib.hid o1
          clear hown2 o1 hgl2
          go_wp2_with fail
          exact ⟨⟨k2 + 1, _, by go_num, h2, O1.out, hbl.trans (below_of_grown o2 hgl1 (by omega))⟩, by simp [intOf]; omega⟩
        · have d2 : decide ((k2 : Int) < (L.length : Int)) = false := decide_eq_false (by omega)
          have d2' : ¬ (k2 : Int) < (L.length : Int) := by omega
          have s6 := hgr.size
          have hb15 : Below w1.heap.size w1 w5 := hb14.next hb5
          have hb16 : Below w1.heap.size w1 w6 := hb15.grown hgr hb15.size (fun g' hg' => by cases hg'; exact hga1)
          have hb17 : Below w1.heap.size w1 wr := hb16.trans (hbl.mono (by have := hb2.size; omega))
          have hB7 := hB1.below hb17 hB1.lt
          have hd7 := hd1.alive hb17
          have he7 := he1.alive hb17
          have hp7 := hp1.alive hb17
          obtain ⟨c0, c1, c2, c3, c4, c5, c6, c7, c8, c9⟩ := obj_cells hB7
          have hx3 : ∀ {size : Nat} {A' : Option Addr} {n' : Nat} {ys : List Value}, RdN w3 w2.heap.size size A' n' ys → Rd wr wr.heap.size size A' n' ys := fun h => by
            have g1 := (h.1.below (hb4.next hb5))
            have g2 := rd_apart g1 h.2 (by omega) hgr hga2
            exact (g2.keep fun b o' hb' => hbl.cell (p := ⟨b, o', none⟩) (by show b < _; omega)).more (Nat.le_trans (by omega) hbl.size)
          have hX5 := hX.below hb5 hX.lt
          have hX6 := hX5.grown hgr (fun e => by injection e; omega)
          have hX7 := hX6.below hbl (by omega)
          have hdx7 := hx3 hdx
          have hex7 := hx3 hex
          have hpx7 := hx3 hpx
          clear hown2
          go_wp2_with fail
          refine (Encode_calls k Ad d cd Ae en ce tr Ap pa cp ta na wh st te wr hd7 he7 hp7 hel hpl hsz).mono ?_
          intro e w8 hR
          obtain ⟨lb, Ab, cb, elb, rfl, hob, hb8⟩ := RetGood.of HC.out hR
          clear hR c0 c1 c2 c3 c4 c5 c6 c7 c8 c9
          have hX8 := hX7.below hb8 hX7.lt
          obtain ⟨z0, z1, z2, z3, z4, z5, z6, z7, z8, z9⟩ := obj_cells hX8
          go_wp2_with fail
          refine (Encode_calls k Adx d cdx Aex en cex tr Apx pa cpx ta na wh st te w8 (hdx7.alive hb8) (hex7.alive hb8) (hpx7.alive hb8) helx hplx hszx).mono ?_
          intro e w9 hR
          obtain ⟨lx, Ax, cx, elx, rfl, hox9, hb9⟩ := RetGood.of HC.out hR
          clear hR z0 z1 z2 z3 z4 z5 z6 z7 z8 z9
          obtain rfl : lb = l := by rw [elb.out, el.out]
          obtain rfl : lx = lb := by rw [elx.out, el.out]
          have v2 : (convert 22 9 (.slice Ab lx.length cb)).run Try.prog w9 = .ok (.string ⟨lx.toArray⟩) w9 := conv8f ((Rd.of_own hob).alive hb9)
          have v3 : (convert 22 9 (.slice Ax lx.length cx)).run Try.prog w9 = .ok (.string ⟨lx.toArray⟩) w9 := conv8f (Rd.of_own hox9)
          go_wp2_with fail
          go_ret
          exact ⟨by first | rfl | simp, (hbw.next hb17).next (hb8.next hb9)⟩

theorem objectKeeps_walk (k : Int) (Ad : Option Addr) (d : List UInt8) (cd : Nat) (Ae : Option Addr) (en : List Ent) (ce : Nat) (tr : ByteArray) (Ap : Option Addr) (pa : List ByteArray) (cp : Nat) (ta na wh : ByteArray) (st : Int) (te : ByteArray) (w : World) (hd : Rd w w.heap.size 1 Ad d.length (bc d)) (he : Rd w w.heap.size 3 Ae en.length (ec en)) (hp : Rd w w.heap.size 1 Ap pa.length (pc pa)) (hel : en.length ≤ 140737488355328) (hpl : pa.length ≤ 140737488355328) (hsz : Hid (∀ p ∈ pa, p.size ≤ maxLen)) (wk : (Lit.int .i64 k).wf = true) (ws : (Lit.int .i64 st).wf = true) :
    Calls Try.prog 10 #[.agg #[.int .i64 k, .slice Ad d.length cd, .slice Ae en.length ce, .string tr, .slice Ap pa.length cp, .string ta, .string na, .string wh, .int .i64 st, .string te]] w fun e w' => e = .returned (.bool true) ∧ Below w.heap.size w w' := by
  cases hc : checkB geS ⟨k, d, en, tr, pa, ta, na, wh, st, te⟩ with
  | false => exact keeps_wrong k Ad d cd Ae en ce tr Ap pa cp ta na wh st te w hd he hp hel hpl hsz (Lib.hid hc)
  | true => exact keeps_right k Ad d cd Ae en ce tr Ap pa cp ta na wh st te w hd he hp hel hpl hsz (Lib.hid hc)
end Go.Proofs.Ytcefbhmmijmefaa
