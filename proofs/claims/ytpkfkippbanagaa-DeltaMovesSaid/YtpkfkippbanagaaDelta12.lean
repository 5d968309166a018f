/- The walks of the layer 'delta', its twelfth part: the reader adds bytes; one token. Conditions: lengths below 2^47. -/
import Derived.Test.YtpkfkippbanagaaDelta11
namespace Go.Proofs.Ytpkfkippbanagaa
open Go.RowKit Go.Dol
set_option linter.unusedVariables false
attribute [local irreducible] wpStill

/-- What 'add' leaves where all is well. -/
def AddRes (base g : Nat) (vb vp : Value) (size : Nat) (Ao : Option Addr) (no co : Nat) (r : List UInt8) (w : World) (e : Ending) (w' : World) : Prop :=
  e = .returned (.tuple #[]) ∧ ∃ (o' : List UInt8) (Ao' : Option Addr) (co' : Nat), Hid (o' = r) ∧ Blk w' g 53 [vb, vp, .slice Ao' o'.length co', .int .i64 size, .int .i64 0] ∧
    w'.ownsRow base 5 1 (.slice Ao' o'.length co') o'.length (bc o') ∧ Below base w w' ∧ o'.length ≤ co' ∧ co' ≤ maxLen ∧
    Hid (∀ (A : Option Addr) (n c : Nat) (xs : List Value), Seg w base 5 1 A n c xs → Apart A c (.slice Ao no co) → Seg w' base 5 1 A n c xs ∧ Apart A c (.slice Ao' o'.length co'))

set_option maxRecDepth 100000 in
set_option maxHeartbeats 1600000 in
theorem add_good (base g : Nat) (vb vp : Value) (o : List UInt8) (Ao : Option Addr) (co size : Nat) (A : Option Addr) (x : List UInt8) (c at' m : Nat) (w : World) (hblk : Blk w g 53 [vb, vp, .slice Ao o.length co, .int .i64 size, .int .i64 0])
    (hown : w.ownsRow base 5 1 (.slice Ao o.length co) o.length (bc o)) (hr : Rd w w.heap.size 1 A x.length (bc x)) (hc : x.length ≤ c) (hcm : c ≤ maxLen) (hg : base ≤ g) (hno : o.length ≤ size) (hs : size ≤ 70368744177664) (hn : x.length ≤ 140737488355328)
    (h1 : at' ≤ x.length) (h2 : m ≤ x.length - at') (h3 : m ≤ size - o.length) :
    Calls Try.prog 48 #[.pointer (some ⟨g, 0, none⟩), .slice A x.length c, .int .i64 at', .int .i64 m] w (AddRes base g vb vp size Ao o.length co (o ++ (x.drop at').take m) w) := by
  have k2 : w.cell? ⟨g, 2, none⟩ = some (.slice Ao o.length co) := by rw [hblk.cell]; rfl
  have k3 : w.cell? ⟨g, 3, none⟩ = some (.int .i64 size) := by rw [hblk.cell]; rfl
  have k4 : w.cell? ⟨g, 4, none⟩ = some (.int .i64 0) := by rw [hblk.cell]; rfl
  have f2 : IntKind.i64.wrap ((size : Int) - (o.length : Int)) = (size : Int) - (o.length : Int) := IntWalk.i64_in _ (by omega)
  have f1 : IntKind.i64.wrap ((x.length : Int) - (at' : Int)) = (x.length : Int) - (at' : Int) := IntWalk.i64_in _ (by omega)
  have f3 : IntKind.i64.wrap ((at' : Int) + (m : Int)) = (at' : Int) + (m : Int) := IntWalk.i64_in _ (by omega)
  have d1 : decide (x.length < at') = false := by simp; omega
  have d1i : decide ((x.length : Int) < (at' : Int)) = false := by simp; omega
  have d2 : decide ((x.length : Int) - (at' : Int) < (m : Int)) = false := by simp; omega
  have d3 : decide ((size : Int) - (o.length : Int) < (m : Int)) = false := by simp; omega
  have hgl := hblk.lt
  obtain ⟨q, Aq, cq, eq, jq, jq', ⟨rq, kq, kq'⟩, _, _, _, sq⟩ := sl_mid (lo := at') (hi := at' + m) (at' : Int) ((at' : Int) + (m : Int)) rfl (by omega) hr (by omega) (by omega) hc hcm
  have eq' : Hid (q = (x.drop at').take m) := by unfold Hid; rw [eq.out, Nat.add_sub_cancel_left]
  have hql : o.length + q.length ≤ 140737488355328 := by omega
  clear eq h1 h2 h3
  go_enter Try.func48, Try.ntmps48
  go_wp2_with fail
  go_quiet (fail)
  obtain ⟨w1, hw1⟩ : ∃ v, v = w.drewN nq := ⟨_, rfl⟩
  rw [← hw1]
  have hb1 : Blk w1 g 53 [vb, vp, .slice Ao o.length co, .int .i64 size, .int .i64 0] := by rw [hw1]; exact hblk.drewN nq
  have ho1 : w1.ownsRow base 5 1 (.slice Ao o.length co) o.length (bc o) := by rw [hw1]; exact hown
  have hrq : Rd w1 w1.heap.size 1 Aq q.length (bc q) := by rw [hw1]; exact rq.drewN nq
  have hbel1 : Below base w w1 := by rw [hw1]; exact (Below.refl _ _).drewN' nq
  have hseg1 : Hid (∀ (A : Option Addr) (n c : Nat) (xs : List Value), Seg w base 5 1 A n c xs → Seg w1 base 5 1 A n c xs) := by rw [hw1]; exact fun A n c xs h => h.drewN nq
  have k2 : w1.cell? ⟨g, 2, none⟩ = some (.slice Ao o.length co) := by rw [hb1.cell]; rfl
  have hz1 : base ≤ w1.heap.size := by have := hb1.lt; omega
  clear hw1 hblk hown hr rq k3 k4 d1 d1i d2 d3
  go_wp2_with fail
  have hne : some g ≠ (Value.slice Ao o.length co).ownBlock := fun e => own_ne ho1 hb1 (by decide) e.symm
  have qf : (World.drew w1).cell? ⟨g, 2, none⟩ = some (.slice Ao o.length co) := k2
  go_region_law ((refine appS8r (by rfl) (.tmp 48) (.tmp 54) (by rfl) base _ o.length o (by rfl) (w := World.drew w1) ho1 _ Aq q.length cq q (by rfl) hrq.drew hql hz1 ?_; intro o3 Ao3 co3 w3 e3 ho3 hb3 hg3 hw3 j3 j4; have hB := (hb1.drew).grown hg3 hne; have c1 : w3.cell? ⟨g, 2, none⟩ = some (.slice Ao o.length co) := (by rw [hB.cell]; rfl); have fr1 := hB.free 2))
  all_goals
    go_wp2_with fail
    go_end0
    have hG2 : w3.grownBy (w3.setCell ⟨g, 2, none⟩ (.slice Ao3 o3.length co3)) (some g) := grown_setCell (World.grownBy.refl _ _) _ _
    refine ⟨rfl, o3, Ao3, co3, by unfold Hid; rw [e3.out, eq'.out], hB.set 2 _, own_other ho3 hB (by decide) hG2, (hbel1.trans ((Below.refl base w1).drew.trans hb3)).setCell (p := ⟨g, 2, none⟩) hg _, j3, j4, ?_⟩
    intro A n c xs hs1 hap
    have hs2 := hseg1.out A n c xs hs1
    exact ⟨seg_other (hs2.drew.keepR hg3 hap) hB (by decide) hG2, hap.app hs2.drew (Nat.le_refl _) hw3.out⟩
end Go.Proofs.Ytpkfkippbanagaa
