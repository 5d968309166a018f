/- The walks of the layer 'delta', its sixth part: how many bytes two rows begin with alike; a row the other way round. Conditions: lengths below 2^47. -/
import Derived.Test.YtpkfkippbanagaaDelta5
import Derived.RegionTactic
namespace Go.Dol
open Go.RowKit
/-- A row of which the first k and the last k have changed places. -/
def RevTo (l r : List UInt8) (k : Nat) : Prop := r.length = l.length ∧ ∀ j, j < l.length → r[j]? = if j < k ∨ l.length - k ≤ j then l[l.length - 1 - j]? else l[j]?
theorem RevTo.zero (l : List UInt8) : RevTo l l 0 := ⟨rfl, fun j hj => by rw [if_neg (by omega)]⟩
theorem RevTo.step {l r : List UInt8} {k : Nat} {x y : UInt8} (h : RevTo l r k) (hk : k + 1 < l.length - k) (hx : r[k]? = some x) (hy : r[l.length - 1 - k]? = some y) : RevTo l ((r.set k y).set (l.length - 1 - k) x) (k + 1) := by
  obtain ⟨h1, h2⟩ := h
  refine ⟨by simpa using h1, fun j hj => ?_⟩
  have ex := h2 k (by omega)
  rw [if_neg (by omega), hx] at ex
  have ey := h2 (l.length - 1 - k) (by omega)
  rw [if_neg (by omega), hy] at ey
  rw [List.getElem?_set, List.getElem?_set]
  by_cases c1 : l.length - 1 - k = j
  · rw [if_pos c1, if_pos (by simp; omega), if_pos (by omega), ← c1, show l.length - 1 - (l.length - 1 - k) = k by omega]
    exact ex
  · rw [if_neg c1]
    by_cases c2 : k = j
    · rw [if_pos c2, if_pos (by omega), if_pos (by omega), ← c2]
      exact ey
    · rw [if_neg c2, h2 j hj]
      by_cases c3 : j < k ∨ l.length - k ≤ j
      · rw [if_pos c3, if_pos (by omega)]
      · rw [if_neg c3, if_neg (by omega)]
theorem RevTo.end {l r : List UInt8} {k : Nat} (h : RevTo l r k) (hk : l.length ≤ 2 * k + 1) : r = l.reverse := by
  obtain ⟨h1, h2⟩ := h
  apply List.ext_getElem?
  intro j
  rcases Nat.lt_or_ge j l.length with hj | hj
  · rw [h2 j hj, List.getElem?_reverse hj]
    split
    · rfl
    · congr 1
      omega
  · rw [List.getElem?_eq_none (by omega), List.getElem?_eq_none (by rw [List.length_reverse]; omega)]
theorem own_blk {w : World} {base : Nat} {e : TypeId} {A : Option Addr} {c n : Nat} {xs : List Value} (h : w.ownsRow base e 1 (.slice A n c) n xs) (hn : 0 < n) :
    ∃ g tail, A = some ⟨g, 0, none⟩ ∧ Blk w g e (xs ++ tail) ∧ base ≤ g ∧ (xs ++ tail).length = c ∧ n ≤ c ∧ c ≤ maxLen := by
  rcases h.2 with ⟨h2, _⟩ | ⟨g, cap, cur, h2, h3, h4, h5, h6, h7, h8⟩
  · injection h2 with h2 h2' h2''
    omega
  · injection h2 with h2 _ h2'
    subst h2'
    have e1 : xs ++ cur.toList.drop (n * 1) = cur.toList := by rw [← h8, List.take_append_drop]
    refine ⟨g, cur.toList.drop (n * 1), h2, ?_, h3, ?_, h5, h6⟩
    · rw [e1]
      exact h4
    · rw [e1, Array.length_toList, h7, Nat.mul_one]
theorem own_of_blk {w : World} {base : Nat} {e : TypeId} {g c n : Nat} {xs tail : List Value} (h : Blk w g e (xs ++ tail)) (hb : base ≤ g) (hl : (xs ++ tail).length = c) (hn : xs.length = n) (hc : c ≤ maxLen) : w.ownsRow base e 1 (.slice (some ⟨g, 0, none⟩) n c) n xs := by
  refine ⟨by omega, .inr ⟨g, c, (xs ++ tail).toArray, rfl, hb, h, ?_, hc, by simpa using hl, ?_⟩⟩
  · rw [← hl, List.length_append]; omega
  · rw [Nat.mul_one, ← hn]; simp
end Go.Dol
namespace Go.Proofs.Ytpkfkippbanagaa
open Go.RowKit Go.Dol
set_option linter.unusedVariables false

set_option maxRecDepth 100000 in
set_option maxHeartbeats 800000 in
theorem alike_calls (A : Option Addr) (a : List UInt8) (c : Nat) (A2 : Option Addr) (b : List UInt8) (c2 : Nat) (w : World) (B B2 : Nat) (hr : Rd w B 1 A a.length (bc a)) (hr2 : Rd w B2 1 A2 b.length (bc b)) (ha : a.length ≤ 140737488355328) (hb : b.length ≤ 140737488355328) :
    Calls Try.prog 34 #[.slice A a.length c, .slice A2 b.length c2] w fun e w' => e = .returned (.int .i64 (begins a b : Nat)) ∧ ∃ n, w' = w.drewN n := by
  go_enter Try.func34, Try.ntmps34
  go_wp2_with fail
  go_loopw [5] (fun n wr => BeginsRel a b w n wr) (fun n _ => a.length - (intOf n).toNat)
  case atStart => exact ⟨0, 0, rfl, by omega, by omega, fun j hj => by omega, rfl⟩
  case round =>
    obtain ⟨m, q, rfl, hm, hm2, hs, hwr⟩ := hrel
    have hrw : Rd wr B 1 A a.length (bc a) := by rw [hwr.out]; exact hr.drewN q
    have hrw2 : Rd wr B2 1 A2 b.length (bc b) := by rw [hwr.out]; exact hr2.drewN q
    have hm0 : (0 : Int) ≤ (m : Int) := by omega
    have f1 : IntKind.i64.wrap ((m : Int) + 1) = (m : Int) + 1 := IntWalk.i64_in _ (by omega)
    by_cases h1 : m < a.length
    · have d1 : decide ((m : Int) < (a.length : Int)) = true := by simp; omega
      have d1' : (m : Int) < (a.length : Int) := by omega
      by_cases h2 : m < b.length
      · have d2 : decide ((m : Int) < (b.length : Int)) = true := by simp; omega
        have d2' : (m : Int) < (b.length : Int) := by omega
        obtain ⟨bb, off, rfl, hbb, hcell⟩ := hrw.at_ (by omega)
        obtain ⟨bb2, off2, rfl, hbb2, hcell2⟩ := hrw2.at_ (by omega)
        have c1 := hcell m _ (bc_get a m h1)
        have c2 := hcell2 m _ (bc_get b m h2)
        have g1 : a[m]? = some a[m] := List.getElem?_eq_getElem h1
        have g2 : b[m]? = some b[m] := List.getElem?_eq_getElem h2
        obtain ⟨x, hx⟩ : ∃ x, x = (a[m]).toNat := ⟨_, rfl⟩
        obtain ⟨y, hy⟩ : ∃ y, y = (b[m]).toNat := ⟨_, rfl⟩
        rw [← hx] at c1
        rw [← hy] at c2
        have hxy : Hid (a[m]? = b[m]? ↔ x = y) := by
          unfold Hid
          rw [g1, g2, hx, hy]
          constructor
          · intro h; injection h with h; rw [h]
          · intro h; rw [UInt8.toNat_inj.1 h]
        clear hx hy g1 g2 hcell hcell2
        by_cases h3 : x = y
        · have hq := hxy.out.2 h3
          have HQ := Lib.hid hq
          clear hq hxy
          subst h3
          go_wp2_with fail
          go_quiet (fail)
          go_wp2_with fail
          refine ⟨⟨m + 1, q + nq, by go_num, by omega, by omega, ?_, ?_⟩, by simp [intOf]; omega⟩
          · intro j hj
            by_cases hjm : j = m
            · rw [hjm]; exact HQ.out
            · exact hs.out j (by omega)
          · unfold Hid; rw [hwr.out, World.drewN_drewN]
        · have hq : ¬ (a[m]? = b[m]?) := fun h => h3 (hxy.out.1 h)
          have HQ := Lib.hid hq
          have d3 : ((x : Int) == (y : Int)) = false := by simp; omega
          have hst := begins_stop (a := a) (b := b) (n := m) (by omega) (by omega) hs.out (.inr (.inr HQ.out))
          have HA := Lib.hid hst
          clear hq hxy hst
          go_wp2_with fail
          go_quiet (fail)
          go_wp2_with fail
          go_ret
          exact ⟨by rw [HA.out]; rfl, q + nq, by rw [hwr.out, World.drewN_drewN]⟩
      · have d2 : decide ((m : Int) < (b.length : Int)) = false := by simp; omega
        have d2' : ¬ ((m : Int) < (b.length : Int)) := by omega
        have hst := begins_stop (a := a) (b := b) (n := m) (by omega) (by omega) hs.out (.inr (.inl (by omega)))
        have HA := Lib.hid hst
        clear hst
        go_wp2_with fail
        go_quiet (fail)
        go_wp2_with fail
        go_ret
        exact ⟨by rw [HA.out]; rfl, q + nq, by rw [hwr.out, World.drewN_drewN]⟩
    · have d1 : decide ((m : Int) < (a.length : Int)) = false := by simp; omega
      have d1' : ¬ ((m : Int) < (a.length : Int)) := by omega
      have hst := begins_stop (a := a) (b := b) (n := m) (by omega) (by omega) hs.out (.inl (by omega))
      have HA := Lib.hid hst
      clear hst
      go_wp2_with fail
      go_quiet (fail)
      go_wp2_with fail
      go_ret
      exact ⟨by rw [HA.out]; rfl, q + nq, by rw [hwr.out, World.drewN_drewN]⟩

def RevRel (l : List UInt8) (tail : List Value) (g : Nat) (w : World) (i j : Value) (wr : World) : Prop :=
  ∃ (k : Nat) (r : List UInt8), i = .int .i64 (k : Nat) ∧ j = .int .i64 ((l.length : Int) - 1 - (k : Int)) ∧ 2 * k ≤ l.length ∧ Hid (RevTo l r k) ∧ Blk wr g 5 (bc r ++ tail) ∧ w.grownBy wr (some g)

set_option maxRecDepth 100000 in
set_option maxHeartbeats 4000000 in
theorem Reverse_calls (g : Nat) (l : List UInt8) (tail : List Value) (c : Nat) (w : World) (hb : Blk w g 5 (bc l ++ tail)) (hl : 0 < l.length) (hl2 : l.length ≤ 140737488355328) :
    Calls Try.prog 45 #[.slice (some ⟨g, 0, none⟩) l.length c] w fun e w' => e = .returned (.tuple #[]) ∧ Blk w' g 5 (bc l.reverse ++ tail) ∧ w.grownBy w' (some g) := by
  go_enter Try.func45, Try.ntmps45
  go_wp2_with fail
  go_loopw [2, 3] (fun i j wr => RevRel l tail g w i j wr) (fun i _ _ => l.length - (intOf i).toNat)
  case atStart => exact ⟨0, l, rfl, by go_num, by omega, RevTo.zero l, hb, World.grownBy.refl w _⟩
  case round =>
    clear hb
    obtain ⟨k, r, rfl, rfl, hk, hrev, hblk, hgr⟩ := hrel
    have hrl : r.length = l.length := hrev.out.1
    have f1 : IntKind.i64.wrap ((k : Int) + 1) = (k : Int) + 1 := IntWalk.i64_in _ (by omega)
    have f2 : IntKind.i64.wrap ((l.length : Int) - 1 - (k : Int) - 1) = (l.length : Int) - 1 - (k : Int) - 1 := IntWalk.i64_in _ (by omega)
    by_cases h1 : k + 1 < l.length - k
    · have d1 : decide ((k : Int) < (l.length : Int) - 1 - (k : Int)) = true := by simp; omega
      have d1' : (k : Int) < (l.length : Int) - 1 - (k : Int) := by omega
      obtain ⟨x, hx⟩ : ∃ x, r[k]? = some x := ⟨_, List.getElem?_eq_getElem (by omega)⟩
      obtain ⟨q, hq⟩ : ∃ q, q = l.length - 1 - k := ⟨_, rfl⟩
      obtain ⟨y, hy⟩ : ∃ y, r[q]? = some y := ⟨_, List.getElem?_eq_getElem (by omega)⟩
      have hst := hrev.out.step h1 hx (by rw [← hq]; exact hy)
      rw [← hq] at hst
      have HST := Lib.hid hst
      have c1 : wr.cell? ⟨g, k, none⟩ = some (.int .u8 x.toNat) := by rw [hblk.cell, List.getElem?_append_left (by simp [bc]; omega)]; simp [bc, hx]
      have c2 : wr.cell? ⟨g, q, none⟩ = some (.int .u8 y.toNat) := by rw [hblk.cell, List.getElem?_append_left (by simp [bc]; omega)]; simp [bc, hy]
      have z1 := hblk.free k
      have z2 := hblk.free q
      have hkq : k ≠ q := by omega
      have p1 : ((l.length : Int) - 1 - (k : Int)).toNat = q := by omega
      have p2 : (0 : Int) ≤ (l.length : Int) - 1 - (k : Int) := by omega
      have p3 : (l.length : Int) - 1 - (k : Int) < (l.length : Int) := by omega
      have p4 : (k : Int) < (l.length : Int) := by omega
      have HQ := Lib.hid hq
      have HRL := Lib.hid hrl
      clear hst hx hy hq hrl
      go_wp2_with fail
      go_region
      go_wp2_with fail
      refine ⟨⟨k + 1, (r.set k y).set q x, by go_num, congrArg (Value.int IntKind.i64) (by omega), by omega, HST, ?_, grown_drew (grown_setCell (grown_setCell hgr k _) q _)⟩, by simp [intOf]; omega⟩
      have hb1 := ((hblk.set k (.int .u8 y.toNat)).set q (.int .u8 x.toNat)).drew
      have e1 : (((bc r ++ tail).set k (.int .u8 y.toNat)).set q (.int .u8 x.toNat)) = bc ((r.set k y).set q x) ++ tail := by
        have := HRL.out
        rw [List.set_append_left _ _ (by simp [bc]; omega), List.set_append_left _ _ (by simp [bc]; omega)]
        simp [bc, List.map_set]
      rw [← e1]
      exact hb1
    · have d1 : decide ((k : Int) < (l.length : Int) - 1 - (k : Int)) = false := by simp; omega
      have d1' : ¬ (k : Int) < (l.length : Int) - 1 - (k : Int) := by omega
      have hend := hrev.out.end (by omega)
      have HE := Lib.hid hend
      clear hend hrl
      go_wp2_with fail
      go_end0
      rw [← HE.out]
      exact ⟨rfl, hblk, hgr⟩

theorem Reverse_none (A : Option Addr) (c : Nat) (w : World) : Calls Try.prog 45 #[.slice A 0 c] w fun e w' => e = .returned (.tuple #[]) ∧ w = w' := by
  go_enter Try.func45, Try.ntmps45
  go_wp2_with fail
  refine wp_loop_rounds 1 ?_
  rw [rounds_succ]
  go_wp2_with fail
  go_end0
  exact ⟨rfl, rfl⟩

set_option maxRecDepth 100000 in
set_option maxHeartbeats 400000 in
theorem turned_calls (A : Option Addr) (l : List UInt8) (c : Nat) (w : World) (hr : Rd w w.heap.size 1 A l.length (bc l)) (hl : l.length ≤ 140737488355328) :
    Calls Try.prog 35 #[.slice A l.length c] w (RetB 5 w l.reverse) := by
  go_enter Try.func35, Try.ntmps35
  go_wp2_with fail
  refine (Clone_calls A l c w hr hl).mono ?_
  rintro e w1 ⟨l1, A1, c1, e1, rfl, ho1, hb1, i1, i2⟩
  have hl1 : l1.length ≤ 140737488355328 := by rw [e1.out]; exact hl
  rcases Nat.eq_zero_or_pos l1.length with h0 | h0
  · have hnil : l1 = [] := List.eq_nil_of_length_eq_zero h0
    subst hnil
    have hln : Hid (l = []) := e1.out.symm
    clear h0 e1
    go_wp2_with fail
    refine (Reverse_none A1 c1 w1).mono ?_
    rintro e w2 ⟨rfl, rfl⟩
    go_wp2_with fail
    go_ret
    exact ⟨[], A1, c1, by rw [hln.out]; rfl, rfl, ho1, hb1, i1, i2⟩
  · obtain ⟨g, tail, rfl, hblk, hg, htl, i3, i4⟩ := own_blk ho1 h0
    have HTL := Lib.hid htl
    clear htl ho1
    go_wp2_with fail
    refine (Reverse_calls g l1 tail c1 w1 hblk h0 hl1).mono ?_
    rintro e w2 ⟨rfl, hblk2, hg2⟩
    go_wp2_with fail
    go_ret
    refine ⟨l1.reverse, some ⟨g, 0, none⟩, c1, by rw [e1.out]; rfl, by rw [List.length_reverse]; rfl, ?_, hb1.trans (below_of_grown hg2 hg hb1.size), by rw [List.length_reverse]; exact i3, i4⟩
    refine own_of_blk hblk2 hg ?_ (bc_length _) i4
    have := HTL.out
    simp [bc] at this ⊢
    exact this
end Go.Proofs.Ytpkfkippbanagaa
