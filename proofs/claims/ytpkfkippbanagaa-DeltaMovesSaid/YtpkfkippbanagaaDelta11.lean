/- The walks of the layer 'delta', its eleventh part: the reader's numbers, and what it adds. Conditions: lengths below 2^47. -/
import Derived.Test.YtpkfkippbanagaaDelta10
import Derived.Test.YtpkfkippbanagaaRegB
namespace Go.Dol
/-- One token. -/
def tokL (base : List UInt8) (size : Nat) (o p : List UInt8) : Option (List UInt8 × List UInt8) :=
  match takeNum p with
  | none => none
  | some (t, rest) =>
    if t % 2 = 0 then
      if t / 2 + 1 ≤ size - o.length ∧ t / 2 + 1 ≤ rest.length then some (o ++ rest.take (t / 2 + 1), rest.drop (t / 2 + 1)) else none
    else
      match takeNum rest with
      | none => none
      | some (d, rest2) => if t / 2 + 1 ≤ size - o.length ∧ d + (t / 2 + 1) ≤ base.length then some (o ++ (base.drop d).take (t / 2 + 1), rest2) else none
theorem tok_none {base : List UInt8} {size : Nat} {o p : List UInt8} (hp : p ≠ []) (h : tokL base size o p = none) : dGo base size o p = none := by
  unfold tokL at h
  cases ht : takeNum p with
  | none => exact dGo_none hp ht
  | some y =>
    obtain ⟨t, rest⟩ := y
    rw [ht] at h
    simp only at h
    by_cases he : t % 2 = 0
    · rw [if_pos he] at h
      rw [dGo_run ht he]
      split at h
      · cases h
      · rw [if_neg (by assumption)]
    · rw [if_neg he] at h
      cases ht2 : takeNum rest with
      | none => exact dGo_copy_none ht (by omega) ht2
      | some z =>
        obtain ⟨d, rest2⟩ := z
        rw [ht2] at h
        simp only at h
        rw [dGo_copy ht (by omega) ht2]
        split at h
        · cases h
        · rw [if_neg (by assumption)]
theorem tok_some {base : List UInt8} {size : Nat} {o p o' p' : List UInt8} (h : tokL base size o p = some (o', p')) : dGo base size o p = dGo base size o' p' ∧ o'.length ≤ size ∧ p'.length < p.length := by
  unfold tokL at h
  cases ht : takeNum p with
  | none => rw [ht] at h; cases h
  | some y =>
    obtain ⟨t, rest⟩ := y
    have hl := takeNum_less ht
    rw [ht] at h
    simp only at h
    by_cases he : t % 2 = 0
    · rw [if_pos he] at h
      rw [dGo_run ht he]
      split at h
      · rename_i hc
        injection h with h
        injection h with h1 h2
        rw [if_pos hc, h1, h2]
        refine ⟨rfl, ?_, ?_⟩
        · rw [← h1, List.length_append, List.length_take]; omega
        · rw [← h2, List.length_drop]; omega
      · cases h
    · rw [if_neg he] at h
      cases ht2 : takeNum rest with
      | none => rw [ht2] at h; cases h
      | some z =>
        obtain ⟨d, rest2⟩ := z
        have hl2 := takeNum_less ht2
        rw [ht2] at h
        simp only at h
        rw [dGo_copy ht (by omega) ht2]
        split at h
        · rename_i hc
          injection h with h
          injection h with h1 h2
          rw [if_pos hc, h1, h2]
          refine ⟨rfl, ?_, ?_⟩
          · rw [← h1, List.length_append, List.length_take]; omega
          · rw [← h2]; omega
        · cases h
end Go.Dol
namespace Go.Proofs.Ytpkfkippbanagaa
open Go.RowKit Go.Dol
set_option linter.unusedVariables false
attribute [local irreducible] wpStill

/-- What 'num' hands back. -/
def RetNum (w : World) (g : Nat) (vb vo vs : Value) (e0 : Int) (r : Option (Nat × List UInt8)) (e : Ending) (w' : World) : Prop :=
  match r with
  | none => e = .returned (.int .i64 0) ∧ Blk w' g 53 [vb, .slice none 0 0, vo, vs, .int .i64 2] ∧ w.grownBy w' (some g)
  | some (n, q) => ∃ (q' : List UInt8) (A : Option Addr) (c : Nat), Hid (q' = q) ∧ e = .returned (.int .i64 (n : Nat)) ∧ Blk w' g 53 [vb, .slice A q'.length c, vo, vs, .int .i64 e0] ∧
      w'.ownsRow w.heap.size 5 1 (.slice A q'.length c) q'.length (bc q') ∧ w.grownBy w' (some g) ∧ q'.length ≤ c ∧ c ≤ maxLen

set_option maxRecDepth 100000 in
set_option maxHeartbeats 800000 in
theorem num_calls (g : Nat) (A : Option Addr) (p : List UInt8) (c : Nat) (vb vo vs : Value) (w : World) (hblk : Blk w g 53 [vb, .slice A p.length c, vo, vs, .int .i64 0]) (hr : Rd w w.heap.size 1 A p.length (bc p)) (hp : p.length ≤ 140737488355328) (hc : p.length ≤ c) :
    Calls Try.prog 43 #[.pointer (some ⟨g, 0, none⟩)] w (RetNum w g vb vo vs 0 (takeNum p)) := by
  have k1 : w.cell? ⟨g, 1, none⟩ = some (.slice A p.length c) := by rw [hblk.cell]; rfl
  have hgl := hblk.lt
  go_enter Try.func43, Try.ntmps43
  go_wp2_with fail
  refine (TakeNum_calls A p c w hr hp hc).mono ?_
  intro e w1 h1
  rcases ht : takeNum p with _ | ⟨n, q⟩
  · rw [ht] at h1
    obtain ⟨rfl, hb1⟩ := h1
    have hB1 := hblk.below hb1 hgl
    have k2 : w1.cell? ⟨g, 1, none⟩ = some (.slice A p.length c) := by rw [hB1.cell]; rfl
    have k3 : w1.cell? ⟨g, 4, none⟩ = some (.int .i64 0) := by rw [hB1.cell]; rfl
    have z1 := hB1.free 1
    have z4 := hB1.free 4
    have HT := Lib.hid ht
    clear ht k1
    go_wp2_with fail
    go_ret
    rw [HT.out]
    exact ⟨rfl, (hB1.set 1 (.slice none 0 0)).set 4 (.int .i64 2), grown_setCell (grown_setCell (grown_of_below hb1 _) 1 _) 4 _⟩
  · rw [ht] at h1
    obtain ⟨q', A', c', e1, rfl, ho1, hb1, i1, i2⟩ := h1
    have hB1 := hblk.below hb1 hgl
    have k2 : w1.cell? ⟨g, 1, none⟩ = some (.slice A p.length c) := by rw [hB1.cell]; rfl
    have k3 : w1.cell? ⟨g, 4, none⟩ = some (.int .i64 0) := by rw [hB1.cell]; rfl
    have z1 := hB1.free 1
    have z4 := hB1.free 4
    have HT := Lib.hid ht
    clear ht k1
    go_wp2_with fail
    go_ret
    rw [HT.out]
    have hG : w1.grownBy ((w1.setCell ⟨g, 1, none⟩ (.slice A' q'.length c')).setCell ⟨g, 4, none⟩ (.int .i64 0)) (some g) := grown_setCell (grown_setCell (World.grownBy.refl _ _) 1 _) 4 _
    exact ⟨q', A', c', e1, rfl, (hB1.set 1 (.slice A' q'.length c')).set 4 (.int .i64 0), own_grown ho1 hG hgl, grown_setCell (grown_setCell (grown_of_below hb1 _) 1 _) 4 _, i1, i2⟩

set_option maxRecDepth 100000 in
set_option maxHeartbeats 800000 in
/-- Of a reader at which something was wrong. -/
theorem num_bad (g : Nat) (vb vo vs : Value) (w : World) (hblk : Blk w g 53 [vb, .slice none 0 0, vo, vs, .int .i64 2]) :
    Calls Try.prog 43 #[.pointer (some ⟨g, 0, none⟩)] w fun e w' => e = .returned (.int .i64 0) ∧ Blk w' g 53 [vb, .slice none 0 0, vo, vs, .int .i64 2] ∧ w.grownBy w' (some g) := by
  have k1 : w.cell? ⟨g, 1, none⟩ = some (.slice none 0 0) := by rw [hblk.cell]; rfl
  have hgl := hblk.lt
  go_enter Try.func43, Try.ntmps43
  go_wp2_with fail
  refine (TakeNum_calls none [] 0 w Rd.nil (by decide) (by decide)).mono ?_
  rintro e w1 ⟨rfl, hb1⟩
  have hB1 := hblk.below hb1 hgl
  have k2 : w1.cell? ⟨g, 1, none⟩ = some (.slice none 0 0) := by rw [hB1.cell]; rfl
  have k3 : w1.cell? ⟨g, 4, none⟩ = some (.int .i64 2) := by rw [hB1.cell]; rfl
  have z1 := hB1.free 1
  have z4 := hB1.free 4
  clear k1
  go_wp2_with fail
  go_ret
  exact ⟨rfl, (hB1.set 1 (.slice none 0 0)).set 4 (.int .i64 2), grown_setCell (grown_setCell (grown_of_below hb1 _) 1 _) 4 _⟩

/-- A reader at which something was wrong. -/
def IsSl (v : Value) : Prop := ∃ A n c, v = .slice A n c
def RsBad (w : World) (g : Nat) : Prop := ∃ vb vp vo vs, Blk w g 53 [vb, vp, vo, vs, .int .i64 2] ∧ IsSl vp

set_option maxRecDepth 100000 in
set_option maxHeartbeats 1600000 in
theorem add_bad (g : Nat) (vb vp vo vs : Value) (A : Option Addr) (n c : Nat) (at' m : Int) (w : World) (hblk : Blk w g 53 [vb, vp, vo, vs, .int .i64 2]) (hv : IsSl vp) :
    Calls Try.prog 48 #[.pointer (some ⟨g, 0, none⟩), .slice A n c, .int .i64 at', .int .i64 m] w fun e w' => e = .returned (.tuple #[]) ∧ RsBad w' g ∧ w.grownBy w' (some g) := by
  have k4 : w.cell? ⟨g, 4, none⟩ = some (.int .i64 2) := by rw [hblk.cell]; rfl
  have z4 := hblk.free 4
  go_enter Try.func48, Try.ntmps48
  go_wp2_with fail
  go_quiet (fail)
  go_wp2_with fail
  refine bodyPost_ret (results_none (by rfl) _ _ _) rfl ?_
  exact ⟨rfl, ⟨vb, vp, vo, vs, (hblk.drewN nq).set 4 (.int .i64 2), hv⟩, grown_setCell (grown_drewN (World.grownBy.refl w (some g)) nq) 4 _⟩

set_option maxRecDepth 100000 in
set_option maxHeartbeats 1600000 in
theorem add_out (g : Nat) (vb vp : Value) (Ao : Option Addr) (no co size : Nat) (A : Option Addr) (n c at' m : Nat) (w : World) (hblk : Blk w g 53 [vb, vp, .slice Ao no co, .int .i64 size, .int .i64 0]) (hv : IsSl vp) (hno : no ≤ size) (hs : size ≤ 4611686018427387903) (hn : n ≤ 140737488355328)
    (h : ¬ (at' ≤ n ∧ m ≤ n - at' ∧ m ≤ size - no)) :
    Calls Try.prog 48 #[.pointer (some ⟨g, 0, none⟩), .slice A n c, .int .i64 at', .int .i64 m] w fun e w' => e = .returned (.tuple #[]) ∧ RsBad w' g ∧ w.grownBy w' (some g) := by
  have k2 : w.cell? ⟨g, 2, none⟩ = some (.slice Ao no co) := by rw [hblk.cell]; rfl
  have k3 : w.cell? ⟨g, 3, none⟩ = some (.int .i64 size) := by rw [hblk.cell]; rfl
  have k4 : w.cell? ⟨g, 4, none⟩ = some (.int .i64 0) := by rw [hblk.cell]; rfl
  have z4 := hblk.free 4
  have f2 : IntKind.i64.wrap ((size : Int) - (no : Int)) = (size : Int) - (no : Int) := IntWalk.i64_in _ (by omega)
  by_cases h1 : at' ≤ n
  · have d1 : decide (n < at') = false := by simp; omega
    have d1' : ¬ (n : Int) < (at' : Int) := by omega
    have d1i : decide ((n : Int) < (at' : Int)) = false := by simp; omega
    have f1 : IntKind.i64.wrap ((n : Int) - (at' : Int)) = (n : Int) - (at' : Int) := IntWalk.i64_in _ (by omega)
    by_cases h2 : m ≤ n - at'
    · have d2 : decide ((n : Int) - (at' : Int) < (m : Int)) = false := by simp; omega
      have d2' : ¬ (n : Int) - (at' : Int) < (m : Int) := by omega
      have d3 : decide ((size : Int) - (no : Int) < (m : Int)) = true := by simp; omega
      have d3' : (size : Int) - (no : Int) < (m : Int) := by omega
      clear h h2
      go_enter Try.func48, Try.ntmps48
      go_wp2_with fail
      go_quiet (fail)
      go_wp2_with fail
      refine bodyPost_ret (results_none (by rfl) _ _ _) rfl ?_
      exact ⟨rfl, ⟨_, _, _, _, (hblk.drewN nq).set 4 (.int .i64 2), hv⟩, grown_setCell (grown_drewN (World.grownBy.refl w (some g)) nq) 4 _⟩
    · have d2 : decide ((n : Int) - (at' : Int) < (m : Int)) = true := by simp; omega
      have d2' : (n : Int) - (at' : Int) < (m : Int) := by omega
      clear h h2
      go_enter Try.func48, Try.ntmps48
      go_wp2_with fail
      go_quiet (fail)
      go_wp2_with fail
      refine bodyPost_ret (results_none (by rfl) _ _ _) rfl ?_
      exact ⟨rfl, ⟨_, _, _, _, (hblk.drewN nq).set 4 (.int .i64 2), hv⟩, grown_setCell (grown_drewN (World.grownBy.refl w (some g)) nq) 4 _⟩
  · have d1 : decide (n < at') = true := by simp; omega
    have d1' : (n : Int) < (at' : Int) := by omega
    have d1i : decide ((n : Int) < (at' : Int)) = true := by simp; omega
    clear h h1
    go_enter Try.func48, Try.ntmps48
    go_wp2_with fail
    go_quiet (fail)
    go_wp2_with fail
    refine bodyPost_ret (results_none (by rfl) _ _ _) rfl ?_
    exact ⟨rfl, ⟨_, _, _, _, (hblk.drewN nq).set 4 (.int .i64 2), hv⟩, grown_setCell (grown_drewN (World.grownBy.refl w (some g)) nq) 4 _⟩
end Go.Proofs.Ytpkfkippbanagaa
