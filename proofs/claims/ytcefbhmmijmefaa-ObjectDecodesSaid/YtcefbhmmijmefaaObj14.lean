/- The walks of the layer 'object', its fourteenth part: what its reader takes. Conditions: lengths below 2^47. -/
import Derived.Test.YtcefbhmmijmefaaObj11
import Derived.Test.YtcefbhmmijmefaaObjRd
import Derived.Test.YtcefbhmmijmefaaCodeF
namespace Go.Proofs.Ytcefbhmmijmefaa
open Go.RowKit Go.Dol
set_option linter.unusedVariables false

def errB (b : Bool) : Int := if b then 2 else 0
/-- A reader: what is left, and whether something was wrong. -/
def Rs (w : World) (B g : Nat) (l : List UInt8) (b : Bool) : Prop :=
  ∃ (A : Option Addr) (c : Nat), Blk w g 74 [.slice A l.length c, .int .i64 (errB b)] ∧ Far w B A l ∧ l.length ≤ c ∧ c ≤ maxLen ∧ l.length ≤ 140737488355328 ∧ B ≤ g
theorem Rs.lt {w : World} {B g : Nat} {l : List UInt8} {b : Bool} (h : Rs w B g l b) : g < w.heap.size ∧ B ≤ g := by
  obtain ⟨A, c, hB, _, _, _, _, h1⟩ := h
  exact ⟨hB.lt, h1⟩
theorem Rs.keep {w w' : World} {B g : Nat} {l : List UInt8} {b : Bool} (h : Rs w B g l b) {row : Option Nat} (hg : w.grownBy w' row) (hne : some g ≠ row) (hr : Other w B row) : Rs w' B g l b := by
  obtain ⟨A, c, hB, hF, h1⟩ := h
  exact ⟨A, c, hB.grown hg hne, hF.keep hg hr, h1⟩
theorem Rs.below {w w' : World} {B g : Nat} {l : List UInt8} {b : Bool} (h : Rs w B g l b) (hb : Below w.heap.size w w') : Rs w' B g l b := by
  obtain ⟨A, c, hB, hF, h1⟩ := h
  exact ⟨A, c, hB.below hb hB.lt, hF.below hb, h1⟩
theorem Rs.drew {w : World} {B g : Nat} {l : List UInt8} {b : Bool} (h : Rs w B g l b) : Rs w.drew B g l b := by
  obtain ⟨A, c, hB, hF, h1⟩ := h
  exact ⟨A, c, hB.drew, hF.drew, h1⟩

/-- What the reader's methods leave: v was taken, or something is wrong. -/
def RetRd {α : Type} (mk : α → Value) (P : α → Prop) (B g : Nat) (t : Option (α × List UInt8)) (l : List UInt8) (b : Bool) (w : World) (e : Ending) (w' : World) : Prop :=
  ∃ (v : α) (l' : List UInt8) (b' : Bool), e = .returned (mk v) ∧ Rs w' B g l' b' ∧ Hid (Took t b v l' b') ∧ w.grownBy w' (some g) ∧ l'.length ≤ l.length ∧ P v
def mkS (v : List UInt8) : Value := .string ⟨v.toArray⟩
def mkN (n : Nat) : Value := .int .i64 (n : Nat)

set_option maxRecDepth 100000 in
set_option maxHeartbeats 800000 in
theorem rdBytes_calls (B g n : Nat) (nI : Int) (hnI : nI = (n : Nat)) (l : List UInt8) (b : Bool) (w : World) (h : Rs w B g l b) :
    Calls Try.prog 73 #[.pointer (some ⟨g, 0, none⟩), .int .i64 nI] w (RetRd mkS (fun v => v.length ≤ n) B g (takeB n l) l b w) := by
  obtain ⟨A, c, hB, hF, hc, hcm, hl, hBg⟩ := h
  have hO := Other.blk hB (by decide) hBg
  have k0 : w.cell? ⟨g, 0, none⟩ = some (.slice A l.length c) := by rw [hB.cell]; rfl
  have k1 : w.cell? ⟨g, 1, none⟩ = some (.int .i64 (errB b)) := by rw [hB.cell]; rfl
  have z0 := hB.free 0
  have z1 := hB.free 1
  by_cases hn : l.length < n
  · have d1 : decide ((l.length : Int) < nI) = true := decide_eq_true (by omega)
    have HT : Hid (takeB n l = none) := by unfold Hid takeB; rw [if_pos hn]
    clear hnI
    go_enter Try.func73, Try.ntmps73
    go_wp2_with fail
    go_ret
    have hg : w.grownBy (w.setCell ⟨g, 1, none⟩ (.int .i64 2)) (some g) := grown_setCell (World.grownBy.refl w _) 1 _
    exact ⟨[], l, true, rfl, ⟨A, c, hB.set 1 (.int .i64 2), hF.keep hg hO, hc, hcm, hl, hBg⟩, Lib.hid (took_none b _ _ HT.out), hg, Nat.le_refl _, Nat.zero_le _⟩
  · have hn' : n ≤ l.length := by omega
    have d1 : decide ((l.length : Int) < nI) = false := decide_eq_false (by omega)
    have HT : Hid (takeB n l = some (l.take n, l.drop n)) := by unfold Hid takeB; rw [if_neg hn]
    obtain ⟨m, em, jm, jm', ⟨rm, km, km'⟩, _, sm⟩ := sl_to (k := n) nI hnI hF.1 hn' hc hcm
    obtain ⟨q, A', c', eq, jq, jq', hq, _, sq, _, sn⟩ := sl_from (k := n) nI hnI hF.1 hn' hc hcm
    have v1 := conv8f (c := c) rm
    clear hnI hn
    go_enter Try.func73, Try.ntmps73
    go_wp2_with fail
    go_ret
    have hg : w.grownBy (w.setCell ⟨g, 0, none⟩ (.slice A' q.length c')) (some g) := grown_setCell (World.grownBy.refl w _) 0 _
    have hq2 := hq.2
    refine ⟨m, q, b, rfl, ⟨A', c', hB.set 0 (.slice A' q.length c'), (hF.piece hq (Nat.le_refl _) jq sq).keep hg hO, hq2.1, hq2.2, by omega, hBg⟩, Lib.hid (took_some b ?_), hg, by omega, jm⟩
    rw [HT.out, em.out, eq.out]

set_option maxRecDepth 100000 in
set_option maxHeartbeats 800000 in
theorem rdNum_calls (B g : Nat) (l : List UInt8) (b : Bool) (w : World) (h : Rs w B g l b) :
    Calls Try.prog 88 #[.pointer (some ⟨g, 0, none⟩)] w (RetRd mkN (fun n => n ≤ 4611686018427387903) B g (takeNum l) l b w) := by
  obtain ⟨A, c, hB, hF, hc, hcm, hl, hBg⟩ := h
  have hO := Other.blk hB (by decide) hBg
  have k0 : w.cell? ⟨g, 0, none⟩ = some (.slice A l.length c) := by rw [hB.cell]; rfl
  have hgl := hB.lt
  go_enter Try.func88, Try.ntmps88
  go_wp2_with fail
  refine (TakeNum_calls A l c w hF.1 hl hc).mono ?_
  intro e w1 h1
  rcases ht : takeNum l with _ | ⟨n, q⟩
  · rw [ht] at h1
    obtain ⟨rfl, hb1⟩ := h1
    have hB1 := hB.below hb1 hgl
    have hO1 := Other.blk hB1 (by decide) hBg
    have k1 : w1.cell? ⟨g, 1, none⟩ = some (.int .i64 (errB b)) := by rw [hB1.cell]; rfl
    have z0 := hB1.free 0
    have z1 := hB1.free 1
    have k3 : w1.cell? ⟨g, 0, none⟩ = some (.slice A l.length c) := by rw [hB1.cell]; rfl
    have HT := Lib.hid ht
    clear ht k0
    cases b with
    | false =>
      have k2 : w1.cell? ⟨g, 1, none⟩ = some (.int .i64 0) := k1
      clear k1
      go_wp2_with fail
      go_ret
      have hg : w1.grownBy ((w1.setCell ⟨g, 0, none⟩ (.slice none 0 0)).setCell ⟨g, 1, none⟩ (.int .i64 2)) (some g) := grown_setCell (grown_setCell (World.grownBy.refl w1 _) 0 _) 1 _
      rw [HT.out]
      exact ⟨0, [], true, rfl, ⟨none, 0, (hB1.set 0 (.slice none 0 0)).set 1 (.int .i64 2), Far.nil, Nat.zero_le _, by decide, by decide, hBg⟩, Lib.hid (took_none _ _ _ rfl), grown_step (grown_of_below hb1 _) hg, Nat.zero_le _, by decide⟩
    | true =>
      have k2 : w1.cell? ⟨g, 1, none⟩ = some (.int .i64 2) := k1
      clear k1
      go_wp2_with fail
      go_ret
      have hg : w1.grownBy ((w1.setCell ⟨g, 0, none⟩ (.slice none 0 0)).setCell ⟨g, 1, none⟩ (.int .i64 2)) (some g) := grown_setCell (grown_setCell (World.grownBy.refl w1 _) 0 _) 1 _
      rw [HT.out]
      exact ⟨0, [], true, rfl, ⟨none, 0, (hB1.set 0 (.slice none 0 0)).set 1 (.int .i64 2), Far.nil, Nat.zero_le _, by decide, by decide, hBg⟩, Lib.hid (took_none _ _ _ rfl), grown_step (grown_of_below hb1 _) hg, Nat.zero_le _, by decide⟩
  · rw [ht] at h1
    obtain ⟨q', A', c', e1, rfl, ho1, hb1, i1, i2⟩ := h1
    have hB1 := hB.below hb1 hgl
    have hO1 := Other.blk hB1 (by decide) hBg
    have k1 : w1.cell? ⟨g, 1, none⟩ = some (.int .i64 (errB b)) := by rw [hB1.cell]; rfl
    have z0 := hB1.free 0
    have z1 := hB1.free 1
    have k3 : w1.cell? ⟨g, 0, none⟩ = some (.slice A l.length c) := by rw [hB1.cell]; rfl
    have HT := Lib.hid ht
    have hlt := Lib.hid (takeNum_fewer ht)
    have hn := Lib.hid ((num_takeNum ht).2)
    have hF1 : Far w1 B A' q' := Far.of_seg (Seg.of_own ho1)
    clear ht k0
    cases b with
    | false =>
      have k2 : w1.cell? ⟨g, 1, none⟩ = some (.int .i64 0) := k1
      clear k1
      go_wp2_with fail
      go_ret
      have hg : w1.grownBy ((w1.setCell ⟨g, 0, none⟩ (.slice A' q'.length c')).setCell ⟨g, 1, none⟩ (.int .i64 0)) (some g) := grown_setCell (grown_setCell (World.grownBy.refl w1 _) 0 _) 1 _
      have hq : q'.length < l.length := by rw [e1.out]; exact hlt.out
      rw [HT.out]
      exact ⟨n, q', false, rfl, ⟨A', c', (hB1.set 0 (.slice A' q'.length c')).set 1 (.int .i64 0), hF1.keep hg hO1, i1, i2, by omega, hBg⟩, Lib.hid (took_some _ (by rw [e1.out])), grown_step (grown_of_below hb1 _) hg, by omega, hn.out⟩
    | true =>
      have k2 : w1.cell? ⟨g, 1, none⟩ = some (.int .i64 2) := k1
      clear k1
      go_wp2_with fail
      go_ret
      have hg : w1.grownBy ((w1.setCell ⟨g, 0, none⟩ (.slice A' q'.length c')).setCell ⟨g, 1, none⟩ (.int .i64 2)) (some g) := grown_setCell (grown_setCell (World.grownBy.refl w1 _) 0 _) 1 _
      have hq : q'.length < l.length := by rw [e1.out]; exact hlt.out
      rw [HT.out]
      exact ⟨n, q', true, rfl, ⟨A', c', (hB1.set 0 (.slice A' q'.length c')).set 1 (.int .i64 2), hF1.keep hg hO1, i1, i2, by omega, hBg⟩, Lib.hid (took_some _ (by rw [e1.out])), grown_step (grown_of_below hb1 _) hg, by omega, hn.out⟩

theorem takeT_less {l s q : List UInt8} (h : takeT l = some (s, q)) : q.length ≤ l.length ∧ s.length ≤ 1048576 := by
  unfold takeT at h
  obtain ⟨e, h1, h2⟩ := text_takeText h
  have := congrArg List.length e
  simp only [List.length_append] at this
  omega

set_option maxRecDepth 100000 in
set_option maxHeartbeats 800000 in
theorem rdText_calls (B g : Nat) (l : List UInt8) (b : Bool) (w : World) (h : Rs w B g l b) :
    Calls Try.prog 76 #[.pointer (some ⟨g, 0, none⟩)] w (RetRd mkS (fun v => v.length ≤ 1048576) B g (takeT l) l b w) := by
  obtain ⟨A, c, hB, hF, hc, hcm, hl, hBg⟩ := h
  have hO := Other.blk hB (by decide) hBg
  have k0 : w.cell? ⟨g, 0, none⟩ = some (.slice A l.length c) := by rw [hB.cell]; rfl
  have hgl := hB.lt
  go_enter Try.func76, Try.ntmps76
  go_wp2_with fail
  refine (TakeText_far A l c 1048576 w hF.1 hl hc).mono ?_
  intro e w1 h1
  change RetTextF w (takeT l) e w1 at h1
  rcases ht : takeT l with _ | ⟨s, q⟩
  · rw [ht] at h1
    obtain ⟨rfl, hb1⟩ := h1
    have hB1 := hB.below hb1 hgl
    have hO1 := Other.blk hB1 (by decide) hBg
    have k1 : w1.cell? ⟨g, 1, none⟩ = some (.int .i64 (errB b)) := by rw [hB1.cell]; rfl
    have z0 := hB1.free 0
    have z1 := hB1.free 1
    have k3 : w1.cell? ⟨g, 0, none⟩ = some (.slice A l.length c) := by rw [hB1.cell]; rfl
    have HT := Lib.hid ht
    clear ht k0
    cases b with
    | false =>
      have k2 : w1.cell? ⟨g, 1, none⟩ = some (.int .i64 0) := k1
      clear k1
      go_wp2_with fail
      go_ret
      have hg : w1.grownBy ((w1.setCell ⟨g, 0, none⟩ (.slice none 0 0)).setCell ⟨g, 1, none⟩ (.int .i64 2)) (some g) := grown_setCell (grown_setCell (World.grownBy.refl w1 _) 0 _) 1 _
      rw [HT.out]
      exact ⟨[], [], true, rfl, ⟨none, 0, (hB1.set 0 (.slice none 0 0)).set 1 (.int .i64 2), Far.nil, Nat.zero_le _, by decide, by decide, hBg⟩, Lib.hid (took_none _ _ _ rfl), grown_step (grown_of_below hb1 _) hg, Nat.zero_le _, by decide⟩
    | true =>
      have k2 : w1.cell? ⟨g, 1, none⟩ = some (.int .i64 2) := k1
      clear k1
      go_wp2_with fail
      go_ret
      have hg : w1.grownBy ((w1.setCell ⟨g, 0, none⟩ (.slice none 0 0)).setCell ⟨g, 1, none⟩ (.int .i64 2)) (some g) := grown_setCell (grown_setCell (World.grownBy.refl w1 _) 0 _) 1 _
      rw [HT.out]
      exact ⟨[], [], true, rfl, ⟨none, 0, (hB1.set 0 (.slice none 0 0)).set 1 (.int .i64 2), Far.nil, Nat.zero_le _, by decide, by decide, hBg⟩, Lib.hid (took_none _ _ _ rfl), grown_step (grown_of_below hb1 _) hg, Nat.zero_le _, by decide⟩
  · rw [ht] at h1
    obtain ⟨q', A', c', e1, rfl, hs1, hb1⟩ := h1
    have hB1 := hB.below hb1 hgl
    have hO1 := Other.blk hB1 (by decide) hBg
    have k1 : w1.cell? ⟨g, 1, none⟩ = some (.int .i64 (errB b)) := by rw [hB1.cell]; rfl
    have z0 := hB1.free 0
    have z1 := hB1.free 1
    have k3 : w1.cell? ⟨g, 0, none⟩ = some (.slice A l.length c) := by rw [hB1.cell]; rfl
    have HT := Lib.hid ht
    have hlt := Lib.hid (takeT_less ht)
    have hF1 : Far w1 B A' q' := Far.of_seg hs1
    have i1 := hs1.2.1
    have i2 := hs1.2.2.1
    clear ht k0 hs1
    cases b with
    | false =>
      have k2 : w1.cell? ⟨g, 1, none⟩ = some (.int .i64 0) := k1
      clear k1
      go_wp2_with fail
      go_ret
      have hg : w1.grownBy ((w1.setCell ⟨g, 0, none⟩ (.slice A' q'.length c')).setCell ⟨g, 1, none⟩ (.int .i64 0)) (some g) := grown_setCell (grown_setCell (World.grownBy.refl w1 _) 0 _) 1 _
      have hq : q'.length ≤ l.length := by rw [e1.out]; exact hlt.out.1
      rw [HT.out]
      exact ⟨s, q', false, rfl, ⟨A', c', (hB1.set 0 (.slice A' q'.length c')).set 1 (.int .i64 0), hF1.keep hg hO1, i1, i2, by omega, hBg⟩, Lib.hid (took_some _ (by rw [e1.out])), grown_step (grown_of_below hb1 _) hg, by omega, hlt.out.2⟩
    | true =>
      have k2 : w1.cell? ⟨g, 1, none⟩ = some (.int .i64 2) := k1
      clear k1
      go_wp2_with fail
      go_ret
      have hg : w1.grownBy ((w1.setCell ⟨g, 0, none⟩ (.slice A' q'.length c')).setCell ⟨g, 1, none⟩ (.int .i64 2)) (some g) := grown_setCell (grown_setCell (World.grownBy.refl w1 _) 0 _) 1 _
      have hq : q'.length ≤ l.length := by rw [e1.out]; exact hlt.out.1
      rw [HT.out]
      exact ⟨s, q', true, rfl, ⟨A', c', (hB1.set 0 (.slice A' q'.length c')).set 1 (.int .i64 2), hF1.keep hg hO1, i1, i2, by omega, hBg⟩, Lib.hid (took_some _ (by rw [e1.out])), grown_step (grown_of_below hb1 _) hg, by omega, hlt.out.2⟩

def mkT (v : ByteArray × Int × ByteArray) : Value := .agg #[.string v.1, .int .i64 v.2.1, .string v.2.2]
set_option maxRecDepth 100000 in
set_option maxHeartbeats 1600000 in
theorem rdTold_calls (B g : Nat) (l : List UInt8) (b : Bool) (w : World) (h : Rs w B g l b) :
    Calls Try.prog 78 #[.pointer (some ⟨g, 0, none⟩)] w fun e w' => ∃ (v : ByteArray × Int × ByteArray) (l' : List UInt8) (b' : Bool), e = .returned (mkT v) ∧ Rs w' B g l' b' ∧ Hid (Took (toldT l) b v [] b') ∧ w.grownBy w' (some g) := by
  obtain ⟨hgl, hBg⟩ := h.lt
  have hb0 : Below w.heap.size w (w.alloc (.cells #[.string ⟨#[]⟩, .int .i64 0, .string ⟨#[]⟩] 98)) := (Below.refl _ _).alloc (Nat.le_refl _) _
  have hB0 := Blk.new w 98 [.string ⟨#[]⟩, .int .i64 0, .string ⟨#[]⟩]
  have h0 := h.below hb0
  have hne : some w.heap.size ≠ some g := fun e => by injection e with e; omega
  go_enter Try.func78, Try.ntmps78
  go_wp2_with fail
  refine (rdText_calls B g l b _ h0).mono ?_
  rintro e w1 ⟨who, l1, b1, rfl, h1, t1, g1, y1, _⟩
  have hB1 := hB0.grown g1 hne
  unfold mkS
  go_wp2_with fail
  refine (rdNum_calls B g l1 b1 _ h1).mono ?_
  rintro e w2 ⟨n, l2, b2, rfl, h2, t2, g2, y2, _⟩
  have hB2 := hB1.grown g2 hne
  unfold mkN
  go_wp2_with fail
  refine (rdText_calls B g l2 b2 _ h2).mono ?_
  rintro e w3 ⟨tx, l3, b3, rfl, h3, t3, g3, y3, _⟩
  have hB3 := hB2.grown g3 hne
  unfold mkS
  have HT : Hid (Took (toldT l) b ((⟨who.toArray⟩, (n : Int), ⟨tx.toArray⟩) : ByteArray × Int × ByteArray) [] b3) := took_told t1.out t2.out t3.out
  clear t1 t2 t3
  go_wp2_with ((refine wpList_store_blk (by rfl) _ (.tmp 2) (.tmp 9) rfl w.heap.size [.string ⟨who.toArray⟩, .int .i64 (n : Nat), .string ⟨tx.toArray⟩] rfl rfl 98 [.string ⟨#[]⟩, .int .i64 0, .string ⟨#[]⟩] hB3 (by kernel_rfl) rfl (by intro v hv; simp only [List.mem_cons, List.not_mem_nil, or_false] at hv; rcases hv with rfl | rfl | rfl <;> rfl) ?_; intro w4 hB4 hg4))
  have q0 : w4.cell? ⟨w.heap.size, 0, none⟩ = some (.string ⟨who.toArray⟩) := by rw [hB4.cell]; rfl
  have q1 : w4.cell? ⟨w.heap.size, 1, none⟩ = some (.int .i64 (n : Nat)) := by rw [hB4.cell]; rfl
  have q2 : w4.cell? ⟨w.heap.size, 2, none⟩ = some (.string ⟨tx.toArray⟩) := by rw [hB4.cell]; rfl
  have hw : w.grownBy w4 (some g) := by
    have h5 := grown_step (grown_step (grown_of_below hb0 (some g)) (grown_step g1 g2)) g3
    refine ⟨hg4.os.trans h5.os, hg4.tape.trans h5.tape, hg4.output.trans h5.output, Nat.le_trans h5.size hg4.size, fun k hk hkg => ?_⟩
    rw [hg4.block k (Nat.lt_of_lt_of_le hk h5.size) (fun e => by injection e with e; omega), h5.block k hk hkg]
  refine bodyPost_ret (v := mkT (⟨who.toArray⟩, (n : Int), ⟨tx.toArray⟩)) ?_ rfl ⟨_, l3, b3, rfl, h3.keep hg4 (fun e => by injection e with e; omega) (Other.blk hB3 (by decide) (by omega)), HT, hw⟩
  unfold mkT
  simp [results, Try.results78, asAddr, q0, q1, q2, go_sem]
end Go.Proofs.Ytcefbhmmijmefaa
