/- The walks of the layer 'sum', its fourth part: a run is made, given bytes, ended. Conditions: bytes that are made fit 2^47. -/
import Derived.Test.YtcefbhmmijmefaaSum3
import Derived.Test.YtcefbhmmijmefaaSeg2
namespace Go.Proofs.Ytcefbhmmijmefaa
open Go.RowKit Go.Dol
set_option linter.unusedVariables false

/-- A run at block g, whose bytes lie from 'base' on: it was given l. -/
def RunOf (w : World) (g base : Nat) (l : List UInt8) : Prop :=
  ∃ (S : List Int) (r : List UInt8) (A : Option Addr) (c : Nat), Hid (absorb first l = (S, r)) ∧ Words S ∧ Blk w g 90 (wc S ++ [.slice A r.length c, .int .u64 (l.length : Nat), .bool true]) ∧ Seg w base 5 1 A r.length c (bc r)

theorem wc_first_explicit : wc first = [.int .u32 2654435769, .int .u32 1013904242, .int .u32 3668340011, .int .u32 2027808484, .int .u32 387276957, .int .u32 3041712726, .int .u32 1401181199, .int .u32 4055616968] := by
  rw [first_list]; rfl

set_option maxRecDepth 100000 in
set_option maxHeartbeats 400000 in
theorem New_calls (w : World) : Calls Try.prog 52 #[] w fun e w' => ∃ g, e = .returned (.pointer (some ⟨g, 0, none⟩)) ∧ w.heap.size ≤ g ∧ RunOf w' g w.heap.size [] ∧ Below w.heap.size w w' := by
  go_enter Try.func52, Try.ntmps52
  go_wp2_with fail
  refine (first_calls w).mono ?_
  rintro e w1 ⟨rfl, hb1⟩
  rw [wc_first_explicit]
  go_wp2_with fail
  go_ret
  refine ⟨w1.heap.size, rfl, hb1.size, ⟨first, [], none, 0, by unfold Hid; rw [absorb_lt (by simp)], first_words, ?_, Seg.nil⟩, hb1.alloc hb1.size _⟩
  rw [wc_first_explicit]
  exact Blk.new w1 _ _

/-- The cells of a run. -/
theorem run_cell {S : List Int} (h : Words S) (a b c : Value) : (wc S ++ [a, b, c])[8]? = some a ∧ (wc S ++ [a, b, c])[9]? = some b ∧ (wc S ++ [a, b, c])[10]? = some c := by
  have hl : (wc S).length = 8 := by rw [wc_length]; exact h.1
  refine ⟨?_, ?_, ?_⟩ <;> rw [List.getElem?_append_right (by omega), hl] <;> rfl
theorem run_set {S : List Int} (h : Words S) (a b c x : Value) : (wc S ++ [a, b, c]).set 8 x = wc S ++ [x, b, c] ∧ (wc S ++ [a, b, c]).set 9 x = wc S ++ [a, x, c] := by
  have hl : (wc S).length = 8 := by rw [wc_length]; exact h.1
  refine ⟨?_, ?_⟩ <;> rw [List.set_append_right _ _ (by omega), hl] <;> rfl

/-- A row of bytes is not the run's own block. -/
theorem seg_ne {w : World} {g base : Nat} {cs : List Value} {A : Option Addr} {n c : Nat} {xs : List Value} (hb : Blk w g 90 cs) (hs : Seg w base 5 1 A n c xs) : some g ≠ segRow A c := by
  intro he
  unfold segRow at he
  split at he
  · rcases hs.2.2.2 with h | ⟨g', off, cur, rfl, _, hh, _⟩
    · omega
    · have : g' = g := by simpa [segBlock] using he.symm
      subst this
      unfold Blk at hb
      rw [hb] at hh
      injection hh with hh
      injection hh with _ ht
      exact absurd ht (by decide)
  · cases he
def AddRel (S0 : List Int) (r0 : List UInt8) (N : Nat) (g base : Nat) (w : World) (k : Nat) (wr : World) : Prop :=
  ∃ (S : List Int) (r : List UInt8) (A : Option Addr) (c : Nat), k = r.length ∧ Words S ∧ Blk wr g 90 (wc S ++ [.slice A r.length c, .int .u64 (N : Nat), .bool true]) ∧ Seg wr base 5 1 A r.length c (bc r) ∧
    Hid (absorb S r = absorb S0 r0) ∧ Below base w wr

set_option maxRecDepth 100000 in
set_option maxHeartbeats 1000000 in
theorem Add_calls (g base : Nat) (l0 : List UInt8) (A : Option Addr) (l : List UInt8) (c : Nat) (w : World) (hrun : RunOf w g base l0) (hbase : base ≤ g) (hr : Rd w base 1 A l.length (bc l)) (hl : l.length ≤ 140737488355296) (hl0 : l0.length ≤ 4611686018427387903) :
    Calls Try.prog 53 #[.pointer (some ⟨g, 0, none⟩), .slice A l.length c] w fun e w' => e = .returned (.tuple #[]) ∧ RunOf w' g base (l0 ++ l) ∧ Below base w w' := by
  obtain ⟨S, r, A1, c1, hab, hS, hblk, hseg⟩ := hrun
  have hr32 := (absorb_rest first l0).1
  rw [hab.out] at hr32
  simp only at hr32
  have hgl := hblk.lt
  obtain ⟨hc8, hc9, hc10⟩ := run_cell hS (.slice A1 r.length c1) (.int .u64 (l0.length : Nat)) (.bool true)
  have k8 : w.cell? ⟨g, 8, none⟩ = some (.slice A1 r.length c1) := by rw [hblk.cell, hc8]
  have k9 : w.cell? ⟨g, 9, none⟩ = some (.int .u64 (l0.length : Nat)) := by rw [hblk.cell, hc9]
  have k10 : w.cell? ⟨g, 10, none⟩ = some (.bool true) := by rw [hblk.cell, hc10]
  have hfree := hblk.free
  clear hc8 hc9 hc10
  have hws : w.grownBy (w.setCell ⟨g, 9, none⟩ (.int .u64 ((l0.length : Int) + (l.length : Int)))) (some g) := grown_setCell (World.grownBy.refl _ _) _ _
  have hseg' : Seg (w.setCell ⟨g, 9, none⟩ (.int .u64 ((l0.length : Int) + (l.length : Int)))) base 5 1 A1 r.length c1 (bc r) := Seg.keepR hseg hws (fun g' hg' e => seg_ne hblk hseg (by rw [hg', e]))
  go_enter Try.func53, Try.ntmps53
  go_wp2_with (at_builtin; refine appS8 rfl (.tmp 32) (.tmp 33) rfl base A1 r.length c1 r rfl hseg' base A l.length c l rfl (hr.setCell hbase _) (by omega) (by simp [World.setCell]; omega) ?_)
  intro l1 A2 c2 w2 e1 hseg2 hb2 hg2 i1 i2
  have hblk2 : Blk w2 g 90 (wc S ++ [.slice A1 r.length c1, .int .u64 ((l0.length : Int) + (l.length : Int)), .bool true]) := by
    have h1 := hblk.set 9 (.int .u64 ((l0.length : Int) + (l.length : Int)))
    rw [(run_set hS _ _ _ _).2] at h1
    exact h1.grown hg2 (seg_ne h1 hseg')
  obtain ⟨hc8, _, _⟩ := run_cell hS (.slice A1 r.length c1) (.int .u64 ((l0.length : Int) + (l.length : Int))) (.bool true)
  have q8 : w2.cell? ⟨g, 8, none⟩ = some (.slice A1 r.length c1) := by rw [hblk2.cell, hc8]
  have qfree := hblk2.free 8
  have hb02 : Below base w w2 := ((Below.refl _ _).setCell (p := ⟨g, 9, none⟩) hbase _).trans hb2
  clear k8 k9 k10 hfree hseg' hws hc8 hseg
  go_wp2_with fail
  go_loopg [] l1.length (fun k wr => AddRel S l1 (l0.length + l.length) g base w k wr)
  case atStart =>
    have h1 := hblk2.set 8 (.slice A2 l1.length c2)
    rw [(run_set hS _ _ _ _).1] at h1
    refine ⟨S, l1, A2, c2, rfl, hS, by simpa using h1, ?_, rfl, hb02.setCell (p := ⟨g, 8, none⟩) hbase _⟩
    exact Seg.keepR hseg2 (grown_setCell (World.grownBy.refl _ _) _ _) (fun g' hg' e => seg_ne hblk2 hseg2 (by rw [hg', e]))
  case round =>
    clear hblk2 hseg2 hb2 hg2 q8 qfree hb02 hblk hgl
    obtain ⟨S', r', A', c', rfl, hS', hbk, hsg, habs, hbel⟩ := hrel
    have hs := hbel.size
    obtain ⟨hc8, hc9, hc10⟩ := run_cell hS' (.slice A' r'.length c') (.int .u64 ((l0.length + l.length : Nat) : Int)) (.bool true)
    have k8 : wr.cell? ⟨g, 8, none⟩ = some (.slice A' r'.length c') := by rw [hbk.cell, hc8]
    clear hc8 hc9 hc10
    have hlc := hsg.2.1
    by_cases h32 : 32 ≤ r'.length
    · have hc32 : 32 ≤ c' := by omega
      go_wp2_with fail
      refine wp_region_still_tail 8 (by kernel_rfl) (by kernel_rfl) ?_
      change wpStill _ _ (World.drew wr) (fun a' => wpList _ _ _ _ a' (World.drew wr)) _ _
      obtain ⟨w3, hw3⟩ : ∃ w3, w3 = World.drew wr := ⟨_, rfl⟩
      rw [← hw3]
      have gbk : Blk w3 g 90 (wc S' ++ [.slice A' r'.length c', .int .u64 ((l0.length + l.length : Nat) : Int), .bool true]) := by rw [hw3]; exact hbk.drew
      have gsg : Seg w3 base 5 1 A' r'.length c' (bc r') := by rw [hw3]; exact hsg.drew
      have gbel : Below base w w3 := by rw [hw3]; exact hbel.drew
      have g8 : w3.cell? ⟨g, 8, none⟩ = some (.slice A' r'.length c') := by rw [hw3]; simpa using k8
      clear hw3 hbk hsg hbel k8 hs
      have hci : (32:Int) ≤ (c':Int) := by omega
      have hli : (32:Int) ≤ (r'.length:Int) := by omega
      simp only [List.take_succ_cons, List.take_zero, List.drop_succ_cons, List.drop_zero]
      repeat still_step
      refine wpStill_nil ?_
      go_wp2_with fail
      refine (take_calls g 90 S' _ A' (r'.take 32) 32 c' w3 hS' gbk (gsg.rd.head (l := r') h32) rfl hc32).mono ?_
      rintro e w4 ⟨rfl, hb4, hg4⟩
      have hS4 := hS'.sumB (r'.take 32)
      obtain ⟨S4, hS4e⟩ : ∃ S4, S4 = sumB S' (r'.take 32) := ⟨_, rfl⟩
      rw [← hS4e] at hb4 hS4
      have HS4 := Lib.hid hS4e
      clear hS4e
      obtain ⟨hc8, hc9, hc10⟩ := run_cell hS4 (.slice A' r'.length c') (.int .u64 ((l0.length + l.length : Nat) : Int)) (.bool true)
      have k8 : w4.cell? ⟨g, 8, none⟩ = some (.slice A' r'.length c') := by rw [hb4.cell, hc8]
      have kf := hb4.free 8
      clear hc8 hc9 hc10 g8
      have hsg4 : Seg w4 base 5 1 A' r'.length c' (bc r') := Seg.keepR gsg hg4 (fun g' hg' e => seg_ne gbk gsg (by rw [hg', e]))
      have hbel4 : Below base w w4 := gbel.trans (below_of_grown hg4 hbase (by have := gbel.size; have := gbk.lt; omega))
      have hcut := hsg4.cut (lo := 32) (hi := r'.length) h32 (Nat.le_refl _)
      rw [Nat.mul_one, Nat.mul_one, bc_drop, bc_take, List.take_of_length_le (by simp)] at hcut
      have hfin : Hid (absorb S4 (r'.drop 32) = absorb S l1) := by
        unfold Hid
        rw [HS4.out, ← habs.out, ← absorb_ge h32]
      have hdl : (r'.drop 32).length = r'.length - 32 := by simp
      have HDL := Lib.hid hdl
      clear hdl
      by_cases hcap : c' = 32
      · rw [if_pos hcap] at hcut
        have HC := Lib.hid hcap
        go_wp2_with fail
        go_roundg (r'.length - 32)
        case measure => omega
        case rel =>
          have h1 := hb4.set 8 (.slice A' (r'.length - 32) (c' - 32))
          rw [(run_set hS4 _ _ _ _).1] at h1
          rw [← HDL.out] at h1 hcut ⊢
          refine ⟨S4, r'.drop 32, A', c' - 32, rfl, hS4, ?_, ?_, hfin, hbel4.setCell (p := ⟨g, 8, none⟩) hbase _⟩
          · have hz : c' - 32 = 0 := by have := HC.out; omega
            rw [hz] at h1 ⊢
            exact h1
          · exact Seg.keepR hcut (grown_setCell (World.grownBy.refl _ _) _ _) (fun g' hg' e => seg_ne hb4 hcut (by rw [hg', e]))
      · rw [if_neg hcap] at hcut
        have HC := Lib.hid hcap
        go_wp2_with fail
        go_roundg (r'.length - 32)
        case measure => omega
        case rel =>
          have h1 := hb4.set 8 (.slice (A'.map (·.add 32)) (r'.length - 32) (c' - 32))
          rw [(run_set hS4 _ _ _ _).1] at h1
          rw [← HDL.out] at h1 hcut ⊢
          refine ⟨S4, r'.drop 32, A'.map (·.add 32), c' - 32, rfl, hS4, ?_, ?_, hfin, hbel4.setCell (p := ⟨g, 8, none⟩) hbase _⟩
          · exact h1
          · exact Seg.keepR hcut (grown_setCell (World.grownBy.refl _ _) _ _) (fun g' hg' e => seg_ne hb4 hcut (by rw [hg', e]))
    · go_wp2_with fail
      go_end0
      refine ⟨rfl, ⟨S', r', A', c', ?_, hS', ?_, hsg⟩, hbel⟩
      · unfold Hid
        rw [absorb_append, hab.out, ← e1.out, ← habs.out, absorb_lt (by omega)]
      · rw [List.length_append]; exact hbk
end Go.Proofs.Ytcefbhmmijmefaa
