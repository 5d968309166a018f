/- The walks of the layer 'press', its fifth part: the opener takes a copy. Conditions: lengths below 2^47. -/
import Derived.Test.YtjikoeokmdnciaaPress4
import Derived.Deep.DrawnRows
namespace Go.Proofs.Ytjikoeokmdnciaa
open Go.RowKit Go.Dol
set_option linter.unusedVariables false
attribute [local irreducible] wpStill wpList
attribute [local go_sem ↓] Go.wp_at_zero Go.wp_at_succ

/-- append of one byte onto bytes that the call owns, at a step of a region that draws. -/
theorem push8r {w : World} {k : Int} {ops : Array Oper} {o : Oper} {a : Act} {K : Act → World → Prop} {Q : Exit → Act → World → Prop} {E : Prop} (hgd : o.guard = none) (s x : Operand)
    (ho : o.op = .call { callee := .builtin .append, args := #[s, x], argTypes := #[22, 22] })
    (base : Nat) (v : Value) (n : Nat) (xs : List UInt8) (hs : a.eval s = v) (hown : w.ownsRow base 5 1 v n (bc xs))
    (hx : a.eval x = .slice (some ⟨w.heap.size, 0, none⟩) 1 1) (hk0 : 0 ≤ k) (hk1 : k < 256)
    (hlen : n + 1 ≤ 140737488355328) (hbase : base ≤ w.heap.size)
    (h : ∀ (d : UInt8) (l' : List UInt8) (A' : Option Addr) (c' : Nat) (w' : World), Hid ((d.toNat : Int) = k) → Hid (l' = xs ++ [d]) → w'.ownsRow base 5 1 (.slice A' l'.length c') l'.length (bc l') → Below base w w' → w.grownBy w' v.ownBlock →
      Hid ((Value.slice A' l'.length c').ownBlock = v.ownBlock ∨ (Value.slice A' l'.length c').ownBlock = some (w.heap.size + 1)) →
      l'.length ≤ c' → c' ≤ maxLen → K (a.put o.dst (.slice A' l'.length c')) w') : if Region.wanted o (yielded ops a.tmps) = true then Oper.wp Try.prog o a (w.alloc (.cells #[.int .u8 k] 5)) K Q else E := by
  have hb := (Below.refl base w).alloc hbase (.cells #[.int .u8 k] 5)
  refine appS8r hgd s x ho base v n xs hs (hown.alloc _) (w.heap.size + 1) _ 1 1 [UInt8.ofNat k.toNat] hx (Rd.one w _ k hk0 hk1) hlen (by simp; omega) ?_
  intro l' A' c' w' h0 h1 h2 h3 h4 h5 h6
  refine h (UInt8.ofNat k.toNat) l' A' c' w' ?_ h0 h1 (hb.trans h2) ⟨h3.os, h3.tape, h3.output, Nat.le_trans (by simp) h3.size, fun i hi hne => (h3.block i (by simp; omega) hne).trans (Below.heap_alloc w _ i hi)⟩ ?_ h5 h6
  · unfold Hid
    rw [UInt8.toNat_ofNat']
    omega
  · have e : (w.alloc (.cells #[.int .u8 k] 5)).heap.size = w.heap.size + 1 := by simp
    rw [← e]
    exact h4

def CopyLoop (o0 : List UInt8) (d n base g : Nat) (q : List UInt8) (size : Nat) (w : World) (k : Value) (wr : World) : Prop :=
  ∃ (m : Nat) (o : List UInt8), k = .int .i64 m ∧ m ≤ n ∧ Hid (copyN o0 d n = copyN o d (n - m)) ∧ Hid (o.length = o0.length + m) ∧ OpnSt wr base g q o size ∧ Below base w wr

theorem copy_step {w wr w5 : World} {o o4 o5 q : List UInt8} {d n m base g size x co co5 c1 : Nat} {A1 Ao Ao5 : Option Addr} {b5 : UInt8} (hlt : m < n) (hcpy : Hid (copyN o d n = copyN o4 d (n - m))) (ho4l : Hid (o4.length = o.length + m)) (HG : Hid (o4.getD (o4.length - d) 0 = UInt8.ofNat x))
    (eb : Hid ((b5.toNat : Int) = (x : Int))) (e5 : Hid (o5 = o4 ++ [b5])) (hseg : Seg wr base 5 1 A1 q.length c1 (bc q)) (hap : Apart A1 c1 (.slice Ao o4.length co)) (hg5 : (World.drew wr).grownBy w5 (Value.slice Ao o4.length co).ownBlock)
    (hw5 : Hid ((Value.slice Ao5 o5.length co5).ownBlock = (Value.slice Ao o4.length co).ownBlock ∨ (Value.slice Ao5 o5.length co5).ownBlock = some ((World.drew wr).heap.size + 1)))
    (ho5 : w5.ownsRow base 5 1 (.slice Ao5 o5.length co5) o5.length (bc o5)) (hb5 : Below base (World.drew wr) w5) (hbel : Below base w wr) (hg : base ≤ g)
    (hB : Blk w5 g 53 [.slice A1 q.length c1, .slice Ao o4.length co, .int .i64 size, .int .i64 0]) :
    CopyLoop o d n base g q size w (.int .i64 ((m : Int) + 1)) (w5.setCell ⟨g, 1, none⟩ (.slice Ao5 o5.length co5)) := by
  have hG : w5.grownBy (w5.setCell ⟨g, 1, none⟩ (.slice Ao5 o5.length co5)) (some g) := grown_setCell (World.grownBy.refl _ _) _ _
  have hb' : b5 = UInt8.ofNat x := byte_of eb rfl
  have h1 := hB.set 1 (.slice Ao5 o5.length co5)
  refine ⟨m + 1, o5, by go_num, by omega, ?_, ?_, ⟨A1, Ao5, c1, co5, h1, seg_other (hseg.drew.keepR hg5 hap) hB (by decide) hG, own_other ho5 hB (by decide) hG, hap.app hseg.drew (Nat.le_succ _) hw5.out⟩, (hbel.trans ((Below.refl base wr).drew.trans hb5)).setCell (p := ⟨g, 1, none⟩) hg _⟩
  · unfold Hid
    rw [hcpy.out, show n - m = (n - (m + 1)) + 1 by omega, copyN, HG.out, e5.out, hb']
  · unfold Hid
    rw [e5.out, List.length_append, ho4l.out]
    rfl

set_option maxRecDepth 100000 in
set_option maxHeartbeats 8000000 in
theorem copied_good (base g : Nat) (p q o : List UInt8) (size n d : Nat) (w : World) (h : OpnSt w base g p o size) (ht : takeNum p = some (d, q)) (h1 : n ≤ size - o.length) (h2 : n ≤ 259) (h3 : 1 ≤ d) (h4 : d ≤ o.length) (h5 : d ≤ 4096) (ho : o.length ≤ size) (hs : size ≤ 70368744177664) (hp : p.length ≤ 140737488355328) (hg : base ≤ g) (hbase : base ≤ w.heap.size) :
    Calls Try.prog 41 #[.pointer (some ⟨g, 0, none⟩), .int .i64 n] w fun e w' => e = .returned (.tuple #[]) ∧ OpnSt w' base g q (copyN o d n) size ∧ Below base w w' := by
  obtain ⟨Ap, Ao, cp, co, hblk, hseg, hown, hap⟩ := h
  have hpc := hseg.2.1
  have hgw := hblk.lt
  go_enter Try.func41, Try.ntmps41
  go_wp2_with fail
  refine (next_calls g Ap p cp _ _ _ w hblk hseg.rd hp hpc).mono ?_
  intro e w1 hn
  rw [ht] at hn
  obtain ⟨q1, A1, c1, e1, rfl, hblk1, ho1, hg1, i1⟩ := hn
  have hT := Lib.hid ht
  have e1' : q1 = q := e1.out
  subst e1'
  have hs1 := hg1.size
  have hown1 := own_other hown hblk (by decide) hg1
  have hap1 : Apart A1 c1 (.slice Ao o.length co) := Apart.new hown (Seg.of_own ho1) (Nat.le_refl _)
  have hseg1 := (Seg.of_own ho1).lower (base' := base) hbase
  have hb1 : Below base w w1 := below_of_grown hg1 hg hbase
  clear ht hap hseg hown ho1 hg1 e1
  have k1 : w1.cell? ⟨g, 1, none⟩ = some (.slice Ao o.length co) := by rw [hblk1.cell]; rfl
  have k2 : w1.cell? ⟨g, 2, none⟩ = some (.int .i64 size) := by rw [hblk1.cell]; rfl
  have f1 : IntKind.i64.wrap ((size : Int) - (o.length : Int)) = (size : Int) - (o.length : Int) := IntWalk.i64_in _ (by omega)
  have d1 : (n : Int) ≤ (size : Int) - (o.length : Int) := by omega
  have d2 : (n : Int) ≤ 259 := by omega
  have d3 : (1 : Int) ≤ (d : Int) := by omega
  have d4 : (d : Int) ≤ (o.length : Int) := by omega
  have d5 : (d : Int) ≤ 4096 := by omega
  go_wp2_with fail
  go_still_tail 34, (by kernel_rfl)
  change wpList _ _ _ _ _ (World.drew w1)
  go_wp2_with fail
  refine (want_yes g 0 _ _ _ (World.drew w1) hblk1.drew).mono ?_
  rintro e w2 ⟨rfl, hw2⟩
  have hst : OpnSt w2 base g q1 o size := by
    rw [← hw2]
    exact ⟨A1, Ao, c1, co, hblk1.drew, hseg1.drew, hown1, hap1⟩
  have hb2 : Below base w w2 := by rw [← hw2]; exact hb1.drew
  clear hw2 k1 k2 hblk1 hseg1 hown1 hap1 hb1 hs1
  go_wp2_with fail
  go_loopw [43] (fun k wr => CopyLoop o d n base g q1 size w k wr) (fun k _ => 260 - (intOf k).toNat)
  case atStart => exact ⟨0, o, rfl, Nat.zero_le _, rfl, rfl, hst, hb2⟩
  case round =>
    clear hst hb2
    obtain ⟨m, o4, rfl, hmn, hcpy, ho4l, hst, hbel⟩ := hrel
    obtain ⟨A1, Ao, c1, co, hblk, hseg, hown, hap⟩ := hst
    have hs4 := hbel.size
    have ho4b : o4.length ≤ o.length + m := by have := ho4l.out; omega
    have ho4c : o.length + m ≤ o4.length := by have := ho4l.out; omega
    by_cases hlt : m < n
    · have hlti : (m : Int) < (n : Int) := by omega
      have hdo : o4.length - d < o4.length := by omega
      have hdn : d ≤ o4.length := by omega
      have hd0 : 0 < d := by omega
      obtain ⟨bo, offo, rfl, hbo, hcell⟩ := (Rd.of_own hown).at_ (by omega)
      have hcx := hcell (o4.length - d) _ (bc_get o4 (o4.length - d) hdo)
      obtain ⟨x, hx⟩ : ∃ x, x = (o4[o4.length - d]).toNat := ⟨_, rfl⟩
      have hx256 : x < 256 := by have := (o4[o4.length - d]).toNat_lt; omega
      rw [← hx] at hcx
      have f1 : IntKind.i64.wrap ((o4.length : Int) - (d : Int)) = (o4.length : Int) - (d : Int) := IntWalk.i64_in _ (by omega)
      have f2 : ((o4.length : Int) - (d : Int)).toNat = o4.length - d := by omega
      have f3 : (0 : Int) ≤ (o4.length : Int) - (d : Int) := by omega
      have f4 : (o4.length : Int) - (d : Int) < (o4.length : Int) := by omega
      have hgd : o4.getD (o4.length - d) 0 = UInt8.ofNat x := by
        rw [List.getD_eq_getElem?_getD, List.getElem?_eq_getElem hdo, hx]
        simp
      have HG := Lib.hid hgd
      have c1' : wr.cell? ⟨g, 1, none⟩ = some (.slice (some ⟨bo, offo, none⟩) o4.length co) := by rw [hblk.cell]; rfl
      have fr1 := hblk.free 1
      have hgl := hblk.lt
      have hnew := World.new_ne wr _ c1'
      have hnew2 := World.new_ne wr _ hcx
      have cA : ∀ (k : Int), (World.drew (wr.alloc (.cells #[.int .u8 k] 5))).cell? ⟨g, 1, none⟩ = some (.slice (some ⟨bo, offo, none⟩) o4.length co) := fun k => by rw [(hblk.alloc _).drew.cell]; rfl
      have hne : some g ≠ (Value.slice (some ⟨bo, offo, none⟩) o4.length co).ownBlock := fun e => own_ne hown hblk (by decide) e.symm
      clear hx hgd hcell
      go_wp2_with fail
      go_region_law ((refine push8r (by rfl) (.tmp 49) (.tmp 63) (by rfl) base _ o4.length o4 (by rfl) (w := World.drew wr) hown (by rfl) (by omega) (by omega) (by omega) (by simp; omega) ?_; intro b5 o5 Ao5 co5 w5 eb e5 ho5 hb5 hg5 hw5 j5 j6; have hB := (hblk.drew).grown hg5 hne; have c5 : w5.cell? ⟨g, 1, none⟩ = some (.slice (some ⟨bo, offo, none⟩) o4.length co) := (by rw [hB.cell]; rfl); have fr5 := hB.free 1))
      all_goals
        go_wp2_with fail
        exact ⟨copy_step hlt hcpy ho4l HG eb e5 hseg hap hg5 hw5 ho5 hb5 hbel hg hB, by simp [intOf]; omega⟩
    · have hlti : ¬ ((m : Int) < (n : Int)) := by omega
      have hmn2 : m = n := by omega
      have hfin : Hid (copyN o d n = o4) := by
        unfold Hid
        rw [hcpy.out, hmn2, Nat.sub_self]
        rfl
      have HM := Lib.hid hmn2
      clear hmn2
      go_wp2_with fail
      go_end0
      rw [hfin.out]
      exact ⟨rfl, ⟨A1, Ao, c1, co, hblk, hseg, hown, hap⟩, hbel⟩
end Go.Proofs.Ytjikoeokmdnciaa
