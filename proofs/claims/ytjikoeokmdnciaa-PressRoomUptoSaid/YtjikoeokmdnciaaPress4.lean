/- The walks of the layer 'press', its fourth part: the opener takes a run, a copy. Conditions: lengths below 2^47. -/
import Derived.Test.YtjikoeokmdnciaaPress3
namespace Go.Proofs.Ytjikoeokmdnciaa
open Go.RowKit Go.Dol
set_option linter.unusedVariables false
attribute [local irreducible] wpStill

/-- An opener that is well: what is left, what is made, how much is wanted. -/
def OpnSt (w : World) (base g : Nat) (p o : List UInt8) (size : Nat) : Prop :=
  ∃ (Ap Ao : Option Addr) (cp co : Nat), Blk w g 53 [.slice Ap p.length cp, .slice Ao o.length co, .int .i64 size, .int .i64 0] ∧ Seg w base 5 1 Ap p.length cp (bc p) ∧
    w.ownsRow base 5 1 (.slice Ao o.length co) o.length (bc o) ∧ Apart Ap cp (.slice Ao o.length co)
/-- An opener at which something was wrong. -/
def OpnBad (w : World) (g size : Nat) : Prop := ∃ (Ap Ao : Option Addr) (np cp no co : Nat), Blk w g 53 [.slice Ap np cp, .slice Ao no co, .int .i64 size, .int .i64 2]

set_option maxRecDepth 100000 in
set_option maxHeartbeats 1600000 in
theorem orun_bad (g : Nat) (Ap Ao : Option Addr) (np cp no co : Nat) (size n : Nat) (ve : Value) (w : World) (hblk : Blk w g 53 [.slice Ap np cp, .slice Ao no co, .int .i64 size, ve]) (hb : ¬ (n ≤ size - no ∧ n ≤ np)) (ho : no ≤ size) (hs : size ≤ 4611686018427387903) (hp : np ≤ 140737488355328) (hn : 1 ≤ n) (hn2 : n ≤ 4611686018427387903) :
    Calls Try.prog 40 #[.pointer (some ⟨g, 0, none⟩), .int .i64 n] w fun e w' => e = .returned (.tuple #[]) ∧ OpnBad w' g size ∧ w.grownBy w' (some g) := by
  have k0 : w.cell? ⟨g, 0, none⟩ = some (.slice Ap np cp) := by rw [hblk.cell]; rfl
  have k1 : w.cell? ⟨g, 1, none⟩ = some (.slice Ao no co) := by rw [hblk.cell]; rfl
  have k2 : w.cell? ⟨g, 2, none⟩ = some (.int .i64 size) := by rw [hblk.cell]; rfl
  have f1 : IntKind.i64.wrap ((size : Int) - (no : Int)) = (size : Int) - (no : Int) := IntWalk.i64_in _ (by omega)
  by_cases h1 : n ≤ size - no
  · have h2 : ¬ n ≤ np := fun h => hb ⟨h1, h⟩
    have d1 : decide ((n : Int) ≤ (size : Int) - (no : Int)) = true := by simp; omega
    have d1' : (n : Int) ≤ (size : Int) - (no : Int) := by omega
    have d2 : decide (n ≤ np) = false := by simp; omega
    have d2' : (np : Int) < (n : Int) := by omega
    clear hb h1 h2
    go_enter Try.func40, Try.ntmps40
    go_wp2_with fail
    go_still_tail 22, (by kernel_rfl)
    change wpList _ _ _ _ _ (World.drew w)
    go_wp2_with fail
    refine (want_no g _ _ _ _ (World.drew w) hblk.drew).mono ?_
    rintro e w1 ⟨rfl, hb1, hg1⟩
    go_wp2_with fail
    go_end0
    exact ⟨rfl, ⟨Ap, Ao, np, cp, no, co, hb1⟩, grown_step (grown_drew (World.grownBy.refl w (some g))) hg1⟩
  · have d1 : decide ((n : Int) ≤ (size : Int) - (no : Int)) = false := by simp; omega
    have d1' : (size : Int) - (no : Int) < (n : Int) := by omega
    clear hb h1
    go_enter Try.func40, Try.ntmps40
    go_wp2_with fail
    go_still_tail 22, (by kernel_rfl)
    change wpList _ _ _ _ _ (World.drew w)
    go_wp2_with fail
    refine (want_no g _ _ _ _ (World.drew w) hblk.drew).mono ?_
    rintro e w1 ⟨rfl, hb1, hg1⟩
    go_wp2_with fail
    go_end0
    exact ⟨rfl, ⟨Ap, Ao, np, cp, no, co, hb1⟩, grown_step (grown_drew (World.grownBy.refl w (some g))) hg1⟩

/-- append of bytes onto a slice of bytes of the call's own, at a step of a region that draws. -/
theorem appS8r {w : World} {ops : Array Oper} {o : Oper} {a : Act} {K : Act → World → Prop} {Q : Exit → Act → World → Prop} {E : Prop} (hgd : o.guard = none) (s x : Operand)
    (ho : o.op = .call { callee := .builtin .append, args := #[s, x], argTypes := #[22, 22] })
    (base : Nat) (v : Value) (n : Nat) (xs : List UInt8) (hs : a.eval s = v) (hown : w.ownsRow base 5 1 v n (bc xs))
    (B : Nat) (A : Option Addr) (m c : Nat) (news : List UInt8) (hx : a.eval x = .slice A m c) (hr : Rd w B 1 A m (bc news))
    (hlen : n + m ≤ 140737488355328) (hbase : base ≤ w.heap.size)
    (h : ∀ (l' : List UInt8) (A' : Option Addr) (c' : Nat) (w' : World), Hid (l' = xs ++ news) → w'.ownsRow base 5 1 (.slice A' l'.length c') l'.length (bc l') → Below base w w' → w.grownBy w' v.ownBlock →
      Hid ((Value.slice A' l'.length c').ownBlock = v.ownBlock ∨ (Value.slice A' l'.length c').ownBlock = some w.heap.size) → l'.length ≤ c' → c' ≤ maxLen → K (a.put o.dst (.slice A' l'.length c')) w') : if Region.wanted o (yielded ops a.tmps) = true then Oper.wp Try.prog o a w K Q else E := by
  have hw : Region.wanted o (yielded ops a.tmps) = true := by simp [Region.wanted, hgd]
  rw [if_pos hw]
  refine wp_append_rd w s x _ ho base _ _ 1 1 Try.underlying22 info_u8 rfl (by decide) v n (bc xs) hs hown B A m c (bc news) hx hr (bc_one _) (by unfold maxLen; omega) (by omega) hbase ?_
  intro A' c' w' h1 h2 h3 h4 h5
  have e1 : n = xs.length := by have := hown.1; rw [bc_length] at this; omega
  have e2 : m = news.length := by have := hr.len; rw [bc_length] at this; omega
  have e : n + m = (xs ++ news).length := by rw [List.length_append]; omega
  rw [← bc_append, e] at h1
  rw [e] at h3 h4 ⊢
  exact h _ A' c' w' rfl h1 ((Below.refl _ _).grown h2 hbase (fun k hk => (hown.lt k hk).1)) h2 h3 h4 h5

theorem opn_cut {w4 : World} {base g size n co3 cp c' : Nat} {p o3 : List UInt8} {Ap A' Ao3 : Option Addr} (hB : Blk w4 g 53 [.slice Ap p.length cp, .slice Ao3 o3.length co3, .int .i64 size, .int .i64 0])
    (hs : Seg w4 base 5 1 A' (p.length - n) c' (bc (p.drop n))) (ho : w4.ownsRow base 5 1 (.slice Ao3 o3.length co3) o3.length (bc o3)) (hap : Apart Ap cp (.slice Ao3 o3.length co3)) (hA : segBlock A' = segBlock Ap) (hc : 0 < c' → 0 < cp) :
    OpnSt (w4.setCell ⟨g, 0, none⟩ (.slice A' (p.length - n) c')) base g (p.drop n) o3 size := by
  have hG : w4.grownBy (w4.setCell ⟨g, 0, none⟩ (.slice A' (p.length - n) c')) (some g) := grown_setCell (World.grownBy.refl _ _) _ _
  have h1 := hB.set 0 (.slice A' (p.length - n) c')
  have hdl : (p.drop n).length = p.length - n := by simp
  refine ⟨A', Ao3, c', co3, ?_, ?_, own_other ho hB (by decide) hG, hap.piece hc hA⟩
  · rw [hdl]; exact h1
  · rw [hdl]; exact seg_other hs hB (by decide) hG

set_option maxRecDepth 100000 in
set_option maxHeartbeats 1600000 in
theorem orun_good (base g : Nat) (p o : List UInt8) (size n : Nat) (w : World) (h : OpnSt w base g p o size) (h1 : n ≤ size - o.length) (h2 : n ≤ p.length) (ho : o.length ≤ size) (hs : size ≤ 140737488355328) (hp : p.length ≤ 140737488355328) (hn : 1 ≤ n) (hg : base ≤ g) (hbase : base ≤ w.heap.size) :
    Calls Try.prog 40 #[.pointer (some ⟨g, 0, none⟩), .int .i64 n] w fun e w' => e = .returned (.tuple #[]) ∧ OpnSt w' base g (p.drop n) (o ++ p.take n) size ∧ Below base w w' := by
  obtain ⟨Ap, Ao, cp, co, hblk, hseg, hown, hap⟩ := h
  have k0 : w.cell? ⟨g, 0, none⟩ = some (.slice Ap p.length cp) := by rw [hblk.cell]; rfl
  have k1 : w.cell? ⟨g, 1, none⟩ = some (.slice Ao o.length co) := by rw [hblk.cell]; rfl
  have k2 : w.cell? ⟨g, 2, none⟩ = some (.int .i64 size) := by rw [hblk.cell]; rfl
  have f1 : IntKind.i64.wrap ((size : Int) - (o.length : Int)) = (size : Int) - (o.length : Int) := IntWalk.i64_in _ (by omega)
  have d1 : decide ((n : Int) ≤ (size : Int) - (o.length : Int)) = true := by simp; omega
  have d1' : (n : Int) ≤ (size : Int) - (o.length : Int) := by omega
  have d2 : decide (n ≤ p.length) = true := by simp; omega
  have d2' : (n : Int) ≤ (p.length : Int) := by omega
  have hcp := hseg.2.1
  have d3 : (n : Int) ≤ (cp : Int) := by omega
  go_enter Try.func40, Try.ntmps40
  go_wp2_with fail
  go_still_tail 22, (by kernel_rfl)
  change wpList _ _ _ _ _ (World.drew w)
  go_wp2_with fail
  refine (want_yes g 0 _ _ _ (World.drew w) hblk.drew).mono ?_
  rintro e w1 ⟨rfl, hw1⟩
  have hblk1 : Blk w1 g 53 [.slice Ap p.length cp, .slice Ao o.length co, .int .i64 size, .int .i64 0] := by rw [← hw1]; exact hblk.drew
  have hseg1 : Seg w1 base 5 1 Ap p.length cp (bc p) := by rw [← hw1]; exact hseg.drew
  have hown1 : w1.ownsRow base 5 1 (.slice Ao o.length co) o.length (bc o) := by rw [← hw1]; exact hown
  have hbel1 : Below base w w1 := by rw [← hw1]; exact (Below.refl _ _).drew
  have q0 : w1.cell? ⟨g, 0, none⟩ = some (.slice Ap p.length cp) := by rw [hblk1.cell]; rfl
  have q1 : w1.cell? ⟨g, 1, none⟩ = some (.slice Ao o.length co) := by rw [hblk1.cell]; rfl
  have q2 : w1.frozen? ⟨g, 1, none⟩ = false := hblk1.free 1
  have hz1 : base ≤ w1.heap.size := Nat.le_trans hbase hbel1.size
  clear hw1 k0 k1 k2
  go_wp2_with fail
  have hne : some g ≠ (Value.slice Ao o.length co).ownBlock := fun e => own_ne hown1 hblk1 (by decide) e.symm
  have qf : (World.drew w1).cell? ⟨g, 1, none⟩ = some (.slice Ao o.length co) := q1
  go_region_law ((refine appS8r (by rfl) (.tmp 31) (.tmp 37) (by rfl) base _ o.length o (by rfl) (w := World.drew w1) hown1 _ Ap n cp (p.take n) (by rfl) (hseg1.drew.rd.head (l := p) h2) (by omega) hz1 ?_; intro o3 Ao3 co3 w3 e3 ho3 hb3 hg3 hw3 j3 j4; have hB := (hblk1.drew).grown hg3 hne; have c1 : w3.cell? ⟨g, 1, none⟩ = some (.slice Ao o.length co) := (by rw [hB.cell]; rfl); have fr1 := hB.free 1))
  all_goals
    have hB2 : Blk (w3.setCell ⟨g, 1, none⟩ (.slice Ao3 o3.length co3)) g 53 [.slice Ap p.length cp, .slice Ao3 o3.length co3, .int .i64 size, .int .i64 0] := hB.set 1 _
    have hG2 : w3.grownBy (w3.setCell ⟨g, 1, none⟩ (.slice Ao3 o3.length co3)) (some g) := grown_setCell (World.grownBy.refl _ _) _ _
    have hseg3 : Seg w3 base 5 1 Ap p.length cp (bc p) := hseg1.drew.keepR hg3 hap
    have hap3 : Apart Ap cp (.slice Ao3 o3.length co3) := hap.app hseg1.drew (Nat.le_refl _) hw3.out
    have hs4 := seg_other hseg3 hB (by decide) hG2
    have ho4 := own_other ho3 hB (by decide) hG2
    have hb4 : Below base w (w3.setCell ⟨g, 1, none⟩ (.slice Ao3 o3.length co3)) := (hbel1.trans ((Below.refl base w1).drew.trans hb3)).setCell (p := ⟨g, 1, none⟩) hg _
    obtain ⟨w4, hw4⟩ : ∃ w4, w4 = w3.setCell ⟨g, 1, none⟩ (.slice Ao3 o3.length co3) := ⟨_, rfl⟩
    rw [← hw4] at hB2 hs4 ho4 hb4
    rw [← hw4]
    have c0 : w4.cell? ⟨g, 0, none⟩ = some (.slice Ap p.length cp) := by rw [hB2.cell]; rfl
    have fr0 := hB2.free 0
    have htl := hs4.tail8 h2
    have hdl : Hid ((p.drop n).length = p.length - n) := by unfold Hid; simp
    clear hw4 hB hG2 hseg3 ho3 hb3 hg3 hw3 c1 fr1 hseg1 hown1 hblk1 q0 q1 q2 qf hbel1 hblk hseg hown hap
    by_cases hcc : cp = n
    · rw [if_pos hcc] at htl
      have HCC := Lib.hid hcc
      go_wp2_with fail
      go_end0
      have hz : cp - n = 0 := by have := HCC.out; omega
      rw [hz] at htl
      rw [← e3.out]
      exact ⟨rfl, opn_cut hB2 htl ho4 hap3 rfl (by omega), hb4.setCell (p := ⟨g, 0, none⟩) hg _⟩
    · rw [if_neg hcc] at htl
      have HCC := Lib.hid hcc
      go_wp2_with fail
      go_end0
      rw [← e3.out]
      exact ⟨rfl, opn_cut hB2 htl ho4 hap3 (segBlock_add _ _) (by omega), hb4.setCell (p := ⟨g, 0, none⟩) hg _⟩
end Go.Proofs.Ytjikoeokmdnciaa
