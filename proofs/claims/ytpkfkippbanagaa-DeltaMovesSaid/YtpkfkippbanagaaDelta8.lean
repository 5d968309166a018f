/- The walks of the layer 'delta', its eighth part: the writer. Conditions: lengths below 2^40. -/
import Derived.Test.YtpkfkippbanagaaDelta7
namespace Go.Proofs.Ytpkfkippbanagaa
open Go.RowKit Go.Dol
set_option linter.unusedVariables false

/-- A writer that has laid some bytes. -/
def Wr (w : World) (base g : Nat) (l : List UInt8) : Prop :=
  ∃ A c, Blk w g 46 [.slice A l.length c] ∧ Rd w w.heap.size 1 A l.length (bc l) ∧ base ≤ g ∧ l.length ≤ c ∧ c ≤ maxLen
/-- What a writer's method leaves. -/
def RetW (w : World) (base g : Nat) (l : List UInt8) (e : Ending) (w' : World) : Prop :=
  e = .returned (.tuple #[]) ∧ (∃ l', Hid (l' = l) ∧ Wr w' base g l') ∧ w.grownBy w' (some g)
theorem Wr.belowW {w w' : World} {base g : Nat} {l : List UInt8} (h : Wr w base g l) (hb : Below w.heap.size w w') : Wr w' base g l := by
  obtain ⟨A, c, h1, h2, h3, h4⟩ := h
  exact ⟨A, c, h1.below hb h1.lt, h2.alive hb, h3, h4⟩

set_option maxRecDepth 100000 in
set_option maxHeartbeats 800000 in
theorem copied_calls (base g n k : Nat) (l : List UInt8) (w : World) (h : Wr w base g l) (hn : n ≤ 1099511627776) (hk : k ≤ 1099511627776) (hl : l.length + 18 ≤ 140737488355328) :
    Calls Try.prog 36 #[.pointer (some ⟨g, 0, none⟩), .int .i64 n, .int .i64 k] w (RetW w base g (l ++ copyOf n k)) := by
  by_cases h0 : n = 0
  · subst h0
    go_enter Try.func36, Try.ntmps36
    go_wp2_with fail
    go_end0
    exact ⟨rfl, ⟨l, by simp [Hid, copyOf], h⟩, World.grownBy.refl w _⟩
  · obtain ⟨A, c, hB, hr, hg, hc, hc2⟩ := h
    have c0 : w.cell? ⟨g, 0, none⟩ = some (.slice A l.length c) := by rw [hB.cell]; rfl
    have hgl := hB.lt
    have d1 : decide (0 < (n : Int)) = true := by simp; omega
    have d1' : (0 : Int) < (n : Int) := by omega
    have d1n : 0 < n := by omega
    have f1 : IntKind.i64.wrap ((n : Int) - 1) = (n : Int) - 1 := IntWalk.i64_in _ (by omega)
    have f2 : IntKind.i64.wrap (2 * ((n : Int) - 1)) = 2 * ((n : Int) - 1) := IntWalk.i64_in _ (by omega)
    have f3 : IntKind.i64.wrap (2 * ((n : Int) - 1) + 1) = 2 * ((n : Int) - 1) + 1 := IntWalk.i64_in _ (by omega)
    have hcl : Hid (clampN (2 * ((n : Int) - 1) + 1) = 2 * (n - 1) + 1) := by unfold Hid clampN; omega
    have hcl2 : Hid (clampN (k : Int) = k) := by unfold Hid clampN; omega
    have H0 := Lib.hid h0
    clear h0
    go_enter Try.func36, Try.ntmps36
    go_wp2_with fail
    refine (PutNum_calls A l c _ w hr (by omega)).mono ?_
    rintro e w1 ⟨l1, A1, c1, e1, rfl, ho1, hb1, i1, i2⟩
    have hl1 : l1.length ≤ l.length + 9 := by
      rw [e1.out, List.length_append]
      have := num_length_le 8 (clampN (2 * ((n : Int) - 1) + 1)) (by have := clampN_le (2 * ((n : Int) - 1) + 1); unfold mostNum at this; omega)
      omega
    go_wp2_with fail
    refine (PutNum_calls A1 l1 c1 _ w1 (Rd.of_own ho1) (by omega)).mono ?_
    rintro e w2 ⟨l2, A2, c2, e2, rfl, ho2, hb2, i3, i4⟩
    have hb12 := hb1.next hb2
    have hB2 := hB.below hb12 hgl
    have c2' : w2.cell? ⟨g, 0, none⟩ = some (.slice A l.length c) := by rw [hB2.cell]; rfl
    have z2 := hB2.free 0
    have hs1 := hb1.size
    clear c0
    go_wp2_with fail
    go_end0
    refine ⟨rfl, ⟨l2, ?_, A2, c2, hB2.set 0 _, ?_, hg, i3, i4⟩, grown_setCell (grown_of_below hb12 _) 0 _⟩
    · unfold Hid copyOf
      rw [e2.out, e1.out, hcl.out, hcl2.out, if_neg H0.out, List.append_assoc]
    · exact Rd.of_own (own_grown ho2 (grown_setCell (World.grownBy.refl w2 _) 0 _) (by omega))

set_option maxRecDepth 100000 in
set_option maxHeartbeats 800000 in
theorem insert_calls (base g : Nat) (l : List UInt8) (A2 : Option Addr) (x : List UInt8) (c2 : Nat) (w : World) (h : Wr w base g l) (hr2 : Rd w w.heap.size 1 A2 x.length (bc x)) (hl : l.length + 9 + x.length ≤ 140737488355328) :
    Calls Try.prog 47 #[.pointer (some ⟨g, 0, none⟩), .slice A2 x.length c2] w (RetW w base g (l ++ runB x)) := by
  rcases Nat.eq_zero_or_pos x.length with h0 | h0
  · have hx : x = [] := List.eq_nil_of_length_eq_zero h0
    subst hx
    clear h0
    go_enter Try.func47, Try.ntmps47
    go_wp2_with fail
    go_end0
    exact ⟨rfl, ⟨l, by simp [Hid, runB], h⟩, World.grownBy.refl w _⟩
  · obtain ⟨A, c, hB, hr, hg, hc, hcm⟩ := h
    have c0 : w.cell? ⟨g, 0, none⟩ = some (.slice A l.length c) := by rw [hB.cell]; rfl
    have hgl := hB.lt
    have d1 : decide (0 < (x.length : Int)) = true := by simp; omega
    have d1' : (0 : Int) < (x.length : Int) := by omega
    have hxne : Hid (x ≠ []) := fun e => by rw [e] at h0; simp at h0
    have f1 : IntKind.i64.wrap ((x.length : Int) - 1) = (x.length : Int) - 1 := IntWalk.i64_in _ (by omega)
    have f2 : IntKind.i64.wrap (2 * ((x.length : Int) - 1)) = 2 * ((x.length : Int) - 1) := IntWalk.i64_in _ (by omega)
    have hcl : Hid (clampN (2 * ((x.length : Int) - 1)) = 2 * (x.length - 1)) := by unfold Hid clampN; omega
    go_enter Try.func47, Try.ntmps47
    go_wp2_with fail
    refine (PutNum_calls A l c _ w hr (by omega)).mono ?_
    rintro e w1 ⟨l1, A1, c1, e1, rfl, ho1, hb1, i1, i2⟩
    have hl1 : l1.length ≤ l.length + 9 := by
      rw [e1.out, List.length_append]
      have := num_length_le 8 (clampN (2 * ((x.length : Int) - 1))) (by have := clampN_le (2 * ((x.length : Int) - 1)); unfold mostNum at this; omega)
      omega
    have hr2' := hr2.alive hb1
    go_wp2_with (at_builtin; refine app8 rfl (.tmp 16) (.tmp 17) rfl w.heap.size _ l1.length l1 rfl ho1 w1.heap.size A2 x.length c2 x rfl hr2' (by omega) hb1.size ?_)
    intro l2 A3 c3 w2 e2 ho2 hb2 _ _ i3 i4
    have hb12 := hb1.trans hb2
    have hB2 := hB.below hb12 hgl
    have c2' : w2.cell? ⟨g, 0, none⟩ = some (.slice A l.length c) := by rw [hB2.cell]; rfl
    have z2 := hB2.free 0
    have hs1 := hb1.size
    clear c0
    go_wp2_with fail
    go_end0
    refine ⟨rfl, ⟨l2, ?_, A3, c3, hB2.set 0 _, ?_, hg, i3, i4⟩, grown_setCell (grown_of_below hb12 _) 0 _⟩
    · unfold Hid runB
      rw [e2.out, e1.out, hcl.out, if_neg hxne.out, List.append_assoc]
    · exact Rd.of_own (own_grown ho2 (grown_setCell (World.grownBy.refl w2 _) 0 _) (by omega))
end Go.Proofs.Ytpkfkippbanagaa
