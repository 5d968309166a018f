/- The walk of the law SumKeeps. Conditions: the form's reach. -/
import Derived.Test.YtbogfnjjphidnaaSumTail
import Derived.Test.YtbogfnjjphidnaaSum14
namespace Go.Proofs.Ytbogfnjjphidnaa
open Go.RowKit Go.Dol
set_option linter.unusedVariables false

theorem RunOf.grown {w w' : World} {g base gc : Nat} {l : List UInt8} (h : RunOf w g base l) (hb : w.grownBy w' (some gc)) (hg : gc < base) (hg2 : base ≤ g) : RunOf w' g base l := by
  obtain ⟨S, r, A, c, h1, h2, h3, h4⟩ := h
  refine ⟨S, r, A, c, h1, h2, h3.grown hb (fun e => by injection e; omega), Seg.keepR h4 hb (fun g' hg' e => ?_)⟩
  have := (h4.row g' hg').1
  injection e
  omega
def KeepRel (l : List UInt8) (gc : Nat) (w : World) (i : Value) (wr : World) : Prop :=
  ∃ k : Nat, i = .int .i64 k ∧ k ≤ l.length ∧ (0 < l.length → ∃ (ys : List UInt8) (tail : List Value), ys.length = l.length ∧ Blk wr gc 5 (bc ys ++ tail)) ∧ w.grownBy wr (some gc)

set_option maxRecDepth 100000 in
set_option maxHeartbeats 600000 in
theorem sumKeeps_walk (A : Option Addr) (l : List UInt8) (c : Nat) (w : World) (hr : Rd w w.heap.size 1 A l.length (bc l)) (hc : l.length ≤ c) (hm : c ≤ maxLen) (hn : l.length ≤ 140737488351232) :
    Calls Try.prog 5 #[.slice A l.length c] w fun e w' => e = .returned (.bool true) ∧ Below w.heap.size w w' := by
  go_enter Try.func5, Try.ntmps5
  go_wp2_with fail
  refine (awake_calls w).mono ?_
  rintro e w0 ⟨rfl, hb0⟩
  have s0 := hb0.size
  have hr0 := (hr.belowW hb0 (Nat.le_refl _)).more s0
  go_wp2_with (at_builtin; refine app8 rfl (.tmp 9) (.tmp 10) rfl w0.heap.size _ 0 [] rfl (own_empty w0) w0.heap.size A l.length c l rfl (hr0.alloc (Nat.le_refl _) _) (by omega) (by simp) ?_)
  intro l1 A1 c1 w1 e1 ho1 hb1' _ _ i1 i2
  have hb1 : Below w0.heap.size w0 w1 := ((Below.refl _ _).alloc (Nat.le_refl _) _).trans hb1'
  have hz1 : w0.heap.size < w1.heap.size := by have := hb1'.size; simp at this; omega
  have e1' : l1 = l := by simp [e1.out]
  subst e1'
  have hgc : ∃ gc, w0.heap.size ≤ gc ∧ gc < w1.heap.size ∧ (0 < l1.length → A1 = some ⟨gc, 0, none⟩ ∧ ∃ tail, Blk w1 gc 5 (bc l1 ++ tail)) := by
    by_cases hp : 0 < l1.length
    · obtain ⟨gc, tail, h1, h2, h3⟩ := blk_of_own ho1 hp
      exact ⟨gc, h2, h3.lt, fun _ => ⟨h1, tail, h3⟩⟩
    · exact ⟨w0.heap.size, Nat.le_refl _, hz1, fun h => absurd h hp⟩
  obtain ⟨gc, hgc0, hgc1, hgc2⟩ := hgc
  have HGC := Lib.hid hgc2
  clear hgc2 e1 hb1'
  go_wp2_with fail
  refine (New_calls w1).mono ?_
  rintro e w2 ⟨g, rfl, hg, hrun2, hb2⟩
  have hrc := (Rd.of_own ho1).belowW hb2 (Nat.le_refl _)
  go_wp2_with fail
  refine (Add_calls g w1.heap.size [] A1 l1 c1 w2 hrun2 hg hrc (by omega) (by simp)).mono ?_
  rintro e w3 ⟨rfl, hrun3, hb3⟩
  rw [List.nil_append] at hrun3
  have hb23 : Below w1.heap.size w1 w3 := hb2.trans hb3
  have hb03 := hb1.next hb23
  have f1 := conv8f (c := c1) (hrc.below hb3)
  have f2 := conv8f (c := c) (hr0.belowW hb03 (Nat.le_refl _))
  have hr3 := hr0.belowW hb03 (Nat.le_refl _)
  have HG2 : Hid (0 < l1.length → A1 = some ⟨gc, 0, none⟩ ∧ ∃ tail, Blk w3 gc 5 (bc l1 ++ tail)) := by
    intro hp
    obtain ⟨h1, tail, h2⟩ := HGC.out hp
    exact ⟨h1, tail, h2.below hb23 hgc1⟩
  have s3 := hb23.size
  clear ho1 hrun2 hrc hb2 hb3
  go_wp2_with fail
  clear f1 f2
  go_loopw [7] (fun i wr => KeepRel l1 gc w3 i wr) (fun i _ => l1.length - (intOf i).toNat)
  case atStart => exact ⟨0, rfl, Nat.zero_le _, fun hp => by obtain ⟨h1, tail, h2⟩ := HG2.out hp; exact ⟨l1, tail, rfl, h2⟩, World.grownBy.refl _ _⟩
  case round =>
    obtain ⟨k, rfl, hk, hblk, hgr⟩ := hrel
    by_cases hlt : k < l1.length
    · obtain ⟨hA, _⟩ := HG2.out (by omega)
      obtain ⟨ys, tail, hyl, hblk⟩ := hblk (by omega)
      subst hA
      have hky : k < ys.length := by omega
      have hcell : wr.cell? ⟨gc, k, none⟩ = some (.int .u8 (ys[k]).toNat) := by
        rw [hblk.cell, List.getElem?_append_left (by rw [bc_length]; exact hky)]
        exact bc_get ys k hky
      have hfree := hblk.free k
      obtain ⟨x, hx⟩ : ∃ x, x = (ys[k]).toNat := ⟨_, rfl⟩
      rw [← hx] at hcell
      have hki : (k : Int) < (l1.length : Int) := by omega
      have HYL := Lib.hid hyl
      clear hx hyl
      go_wp2_with fail
      have hu : ∃ y : UInt8, (Value.int .u8 (((x : Int) + 1) % 256)) = .int .u8 y.toNat := by
        refine ⟨UInt8.ofNat ((x + 1) % 256), ?_⟩
        rw [UInt8.toNat_ofNat']
        congr 1
        omega
      obtain ⟨y, hy⟩ := hu
      refine ⟨⟨k + 1, by go_num, by omega, fun _ => ⟨ys.set k y, tail, by rw [List.length_set]; exact HYL.out, ?_⟩, grown_setCell hgr _ _⟩, by simp [intOf]; omega⟩
      have h1 := hblk.set k (.int .u8 y.toNat)
      rw [List.set_append_left _ _ (by rw [bc_length]; exact hky)] at h1
      have h2 : (bc ys).set k (.int .u8 y.toNat) = bc (ys.set k y) := by simp [bc, List.map_set]
      rw [h2] at h1
      first | (rw [hy]; exact h1) | (trace_state; exact h1)
    · have hki : ¬ ((k : Int) < (l1.length : Int)) := by omega
      have hrun := hrun3.grown hgr hgc1 hg
      have hbw : Below w.heap.size w wr := (hb0.next hb03).trans (below_of_grown hgr (by omega) (by omega))
      have hrw := (hr.belowW hbw (Nat.le_refl _)).more hbw.size
      clear hblk hgr hrun3 hr3 hr0 hb03 hb23 hb1
      go_wp2_with fail
      refine (End_calls g w1.heap.size l1 wr hrun (by omega)).mono ?_
      rintro e w4 ⟨l4, e4, rfl, hb4⟩
      rw [e4.out]
      have hrun4 := hrun.belowW hb4
      go_wp2_with fail
      refine (Sum_calls A l1 c w4 (hrw.belowW hb4 (Nat.le_refl _) |>.more hb4.size) (by omega)).mono ?_
      rintro e w5 ⟨l5, e5, rfl, hb5⟩
      rw [e5.out]
      have hrun5 := hrun4.belowW hb5
      go_wp2_with fail
      refine (End_calls g w1.heap.size l1 w5 hrun5 (by omega)).mono ?_
      rintro e w6 ⟨l6, e6, rfl, hb6⟩
      rw [e6.out]
      have hrun6 := hrun5.belowW hb6
      go_wp2_with fail
      refine (End_calls g w1.heap.size l1 w6 hrun6 (by omega)).mono ?_
      rintro e w7 ⟨l7, e7, rfl, hb7⟩
      rw [e7.out]
      go_wp2_with fail
      go_ret
      exact ⟨rfl, (((hbw.next hb4).next hb5).next hb6).next hb7⟩
end Go.Proofs.Ytbogfnjjphidnaa
