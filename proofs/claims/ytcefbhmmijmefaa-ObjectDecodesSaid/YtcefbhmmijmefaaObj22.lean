/- The walks of the document's 'object', its fifth part: what its reader takes. Conditions: lengths below 2^47. -/
import Derived.Test.YtcefbhmmijmefaaObj14
namespace Go.Proofs.Ytcefbhmmijmefaa
open Go.RowKit Go.Dol
set_option linter.unusedVariables false

/-- The document's reader: what is left, and whether something was wrong. -/
def Rr (w : World) (B g : Nat) (l : List UInt8) (b : Bool) : Prop :=
  ∃ (A : Option Addr) (c : Nat), Blk w g 81 [.slice A l.length c, .bool b] ∧ Far w B A l ∧ l.length ≤ c ∧ c ≤ maxLen ∧ l.length ≤ 140737488355328 ∧ B ≤ g
theorem Rr.lt {w : World} {B g : Nat} {l : List UInt8} {b : Bool} (h : Rr w B g l b) : g < w.heap.size ∧ B ≤ g := by
  obtain ⟨A, c, hB, _, _, _, _, h1⟩ := h
  exact ⟨hB.lt, h1⟩
theorem Rr.keep {w w' : World} {B g : Nat} {l : List UInt8} {b : Bool} (h : Rr w B g l b) {row : Option Nat} (hg : w.grownBy w' row) (hne : some g ≠ row) (hr : Other w B row) : Rr w' B g l b := by
  obtain ⟨A, c, hB, hF, h1⟩ := h
  exact ⟨A, c, hB.grown hg hne, hF.keep hg hr, h1⟩
theorem Rr.below {w w' : World} {B g : Nat} {l : List UInt8} {b : Bool} (h : Rr w B g l b) (hb : Below w.heap.size w w') : Rr w' B g l b := by
  obtain ⟨A, c, hB, hF, h1⟩ := h
  exact ⟨A, c, hB.below hb hB.lt, hF.below hb, h1⟩
theorem Rr.drew {w : World} {B g : Nat} {l : List UInt8} {b : Bool} (h : Rr w B g l b) : Rr w.drew B g l b := by
  obtain ⟨A, c, hB, hF, h1⟩ := h
  exact ⟨A, c, hB.drew, hF.drew, h1⟩

/-- What the reader's methods leave: v was taken, or something is wrong. -/
def RetRr {α : Type} (mk : α → Value) (P : α → Prop) (B g : Nat) (t : Option (α × List UInt8)) (l : List UInt8) (b : Bool) (w : World) (e : Ending) (w' : World) : Prop :=
  ∃ (v : α) (l' : List UInt8) (b' : Bool), e = .returned (mk v) ∧ Rr w' B g l' b' ∧ Hid (Took t b v l' b') ∧ w.grownBy w' (some g) ∧ l'.length ≤ l.length ∧ P v

set_option maxRecDepth 100000 in
set_option maxHeartbeats 800000 in
theorem rrBytes_calls (B g n : Nat) (nI : Int) (hnI : nI = (n : Nat)) (l : List UInt8) (b : Bool) (w : World) (h : Rr w B g l b) :
    Calls Try.prog 64 #[.pointer (some ⟨g, 0, none⟩), .int .i64 nI] w (RetRr mkS (fun v => v.length ≤ n) B g (takeB n l) l b w) := by
  obtain ⟨A, c, hB, hF, hc, hcm, hl, hBg⟩ := h
  have hO := Other.blk hB (by decide) hBg
  have k0 : w.cell? ⟨g, 0, none⟩ = some (.slice A l.length c) := by rw [hB.cell]; rfl
  have k1 : w.cell? ⟨g, 1, none⟩ = some (.bool b) := by rw [hB.cell]; rfl
  have z0 := hB.free 0
  have z1 := hB.free 1
  by_cases hn : l.length < n
  · have d1 : decide ((l.length : Int) < nI) = true := decide_eq_true (by omega)
    have HT : Hid (takeB n l = none) := by unfold Hid takeB; rw [if_pos hn]
    clear hnI
    go_enter Try.func64, Try.ntmps64
    go_wp2_with fail
    go_ret
    have hg : w.grownBy (w.setCell ⟨g, 1, none⟩ (.bool true)) (some g) := grown_setCell (World.grownBy.refl w _) 1 _
    exact ⟨[], l, true, rfl, ⟨A, c, hB.set 1 (.bool true), hF.keep hg hO, hc, hcm, hl, hBg⟩, Lib.hid (took_none b _ _ HT.out), hg, Nat.le_refl _, Nat.zero_le _⟩
  · have hn' : n ≤ l.length := by omega
    have d1 : decide ((l.length : Int) < nI) = false := decide_eq_false (by omega)
    have HT : Hid (takeB n l = some (l.take n, l.drop n)) := by unfold Hid takeB; rw [if_neg hn]
    obtain ⟨m, em, jm, jm', ⟨rm, km, km'⟩, _, sm⟩ := sl_to (k := n) nI hnI hF.1 hn' hc hcm
    obtain ⟨q, A', c', eq, jq, jq', hq, _, sq, _, sn⟩ := sl_from (k := n) nI hnI hF.1 hn' hc hcm
    have v1 := conv8f (c := c) rm
    clear hnI hn
    go_enter Try.func64, Try.ntmps64
    go_wp2_with fail
    go_ret
    have hg : w.grownBy (w.setCell ⟨g, 0, none⟩ (.slice A' q.length c')) (some g) := grown_setCell (World.grownBy.refl w _) 0 _
    have hq2 := hq.2
    refine ⟨m, q, b, rfl, ⟨A', c', hB.set 0 (.slice A' q.length c'), (hF.piece hq (Nat.le_refl _) jq sq).keep hg hO, hq2.1, hq2.2, by omega, hBg⟩, Lib.hid (took_some b ?_), hg, by omega, jm⟩
    rw [HT.out, em.out, eq.out]

set_option maxRecDepth 100000 in
set_option maxHeartbeats 800000 in
theorem rrNum_calls (B g : Nat) (l : List UInt8) (b : Bool) (w : World) (h : Rr w B g l b) :
    Calls Try.prog 62 #[.pointer (some ⟨g, 0, none⟩)] w (RetRr mkN (fun n => n ≤ 4611686018427387903) B g (takeNum l) l b w) := by
  obtain ⟨A, c, hB, hF, hc, hcm, hl, hBg⟩ := h
  have k0 : w.cell? ⟨g, 0, none⟩ = some (.slice A l.length c) := by rw [hB.cell]; rfl
  have hgl := hB.lt
  go_enter Try.func62, Try.ntmps62
  go_wp2_with fail
  refine (RefTakeNum_calls A l c w hF.1 hl hc).mono ?_
  intro e w1 h1
  rcases ht : takeNum l with _ | ⟨n, q⟩
  · rw [ht] at h1
    obtain ⟨rfl, hb1⟩ := h1
    have hB1 := hB.below hb1 hgl
    have hO1 := Other.blk hB1 (by decide) hBg
    have k1 : w1.cell? ⟨g, 1, none⟩ = some (.bool b) := by rw [hB1.cell]; rfl
    have z0 := hB1.free 0
    have z1 := hB1.free 1
    have k3 : w1.cell? ⟨g, 0, none⟩ = some (.slice A l.length c) := by rw [hB1.cell]; rfl
    have HT := Lib.hid ht
    clear ht k0
    go_wp2_with fail
    go_ret
    have hg : w1.grownBy (w1.setCell ⟨g, 1, none⟩ (.bool true)) (some g) := grown_setCell (World.grownBy.refl w1 _) 1 _
    rw [HT.out]
    exact ⟨0, l, true, rfl, ⟨A, c, hB1.set 1 (.bool true), (hF.below hb1).keep hg hO1, hc, hcm, hl, hBg⟩, Lib.hid (took_none _ _ _ rfl), grown_step (grown_of_below hb1 _) hg, Nat.le_refl _, by decide⟩
  · rw [ht] at h1
    obtain ⟨q', A', c', e1, rfl, ho1, hb1, i1, i2⟩ := h1
    have hB1 := hB.below hb1 hgl
    have hO1 := Other.blk hB1 (by decide) hBg
    have k1 : w1.cell? ⟨g, 1, none⟩ = some (.bool b) := by rw [hB1.cell]; rfl
    have z0 := hB1.free 0
    have z1 := hB1.free 1
    have k3 : w1.cell? ⟨g, 0, none⟩ = some (.slice A l.length c) := by rw [hB1.cell]; rfl
    have HT := Lib.hid ht
    have hlt := Lib.hid (takeNum_fewer ht)
    have hn := Lib.hid ((num_takeNum ht).2)
    have hF1 : Far w1 B A' q' := Far.of_seg (Seg.of_own ho1)
    clear ht k0
    go_wp2_with fail
    go_ret
    have hg : w1.grownBy (w1.setCell ⟨g, 0, none⟩ (.slice A' q'.length c')) (some g) := grown_setCell (World.grownBy.refl w1 _) 0 _
    have hq : q'.length < l.length := by rw [e1.out]; exact hlt.out
    rw [HT.out]
    exact ⟨n, q', b, rfl, ⟨A', c', hB1.set 0 (.slice A' q'.length c'), hF1.keep hg hO1, i1, i2, by omega, hBg⟩, Lib.hid (took_some _ (by rw [e1.out])), grown_step (grown_of_below hb1 _) hg, by omega, hn.out⟩

set_option maxRecDepth 100000 in
set_option maxHeartbeats 800000 in
theorem rrText_calls (B g : Nat) (l : List UInt8) (b : Bool) (w : World) (h : Rr w B g l b) :
    Calls Try.prog 63 #[.pointer (some ⟨g, 0, none⟩)] w (RetRr mkS (fun v => v.length ≤ 1048576) B g (takeT l) l b w) := by
  obtain ⟨A, c, hB, hF, hc, hcm, hl, hBg⟩ := h
  have k0 : w.cell? ⟨g, 0, none⟩ = some (.slice A l.length c) := by rw [hB.cell]; rfl
  have hgl := hB.lt
  go_enter Try.func63, Try.ntmps63
  go_wp2_with fail
  refine (RefTakeText_far A l c 1048576 w hF.1 hl hc).mono ?_
  intro e w1 h1
  change RetTextF w (takeT l) e w1 at h1
  rcases ht : takeT l with _ | ⟨s, q⟩
  · rw [ht] at h1
    obtain ⟨rfl, hb1⟩ := h1
    have hB1 := hB.below hb1 hgl
    have hO1 := Other.blk hB1 (by decide) hBg
    have k1 : w1.cell? ⟨g, 1, none⟩ = some (.bool b) := by rw [hB1.cell]; rfl
    have z0 := hB1.free 0
    have z1 := hB1.free 1
    have k3 : w1.cell? ⟨g, 0, none⟩ = some (.slice A l.length c) := by rw [hB1.cell]; rfl
    have HT := Lib.hid ht
    clear ht k0
    go_wp2_with fail
    go_ret
    have hg : w1.grownBy (w1.setCell ⟨g, 1, none⟩ (.bool true)) (some g) := grown_setCell (World.grownBy.refl w1 _) 1 _
    rw [HT.out]
    exact ⟨[], l, true, rfl, ⟨A, c, hB1.set 1 (.bool true), (hF.below hb1).keep hg hO1, hc, hcm, hl, hBg⟩, Lib.hid (took_none _ _ _ rfl), grown_step (grown_of_below hb1 _) hg, Nat.le_refl _, by decide⟩
  · rw [ht] at h1
    obtain ⟨q', A', c', e1, rfl, hs1, hb1⟩ := h1
    have hB1 := hB.below hb1 hgl
    have hO1 := Other.blk hB1 (by decide) hBg
    have k1 : w1.cell? ⟨g, 1, none⟩ = some (.bool b) := by rw [hB1.cell]; rfl
    have z0 := hB1.free 0
    have z1 := hB1.free 1
    have k3 : w1.cell? ⟨g, 0, none⟩ = some (.slice A l.length c) := by rw [hB1.cell]; rfl
    have HT := Lib.hid ht
    have hlt := Lib.hid (takeT_less ht)
    have hF1 : Far w1 B A' q' := Far.of_seg hs1
    have i1 := hs1.2.1
    have i2 := hs1.2.2.1
    clear ht k0 hs1
    go_wp2_with fail
    go_ret
    have hg : w1.grownBy (w1.setCell ⟨g, 0, none⟩ (.slice A' q'.length c')) (some g) := grown_setCell (World.grownBy.refl w1 _) 0 _
    have hq : q'.length ≤ l.length := by rw [e1.out]; exact hlt.out.1
    rw [HT.out]
    exact ⟨s, q', b, rfl, ⟨A', c', hB1.set 0 (.slice A' q'.length c'), hF1.keep hg hO1, i1, i2, by omega, hBg⟩, Lib.hid (took_some _ (by rw [e1.out])), grown_step (grown_of_below hb1 _) hg, by omega, hlt.out.2⟩
end Go.Proofs.Ytcefbhmmijmefaa
