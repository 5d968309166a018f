/- The walk of the law SumTail. Conditions: the second form's bound. -/
import Derived.Test.YtbogfnjjphidnaaSumHex
namespace Go.Proofs.Ytbogfnjjphidnaa
open Go.RowKit Go.Dol
set_option linter.unusedVariables false

theorem RunOf.belowW {w w' : World} {g base : Nat} {l : List UInt8} (h : RunOf w g base l) (hb : Below w.heap.size w w') : RunOf w' g base l := by
  obtain ⟨S, r, A, c, h1, h2, h3, h4⟩ := h
  exact ⟨S, r, A, c, h1, h2, h3.below hb h3.lt, h4.belowW hb⟩
theorem RunOf.lt {w : World} {g base : Nat} {l : List UInt8} (h : RunOf w g base l) : g < w.heap.size := by
  obtain ⟨S, r, A, c, h1, h2, h3, h4⟩ := h
  exact h3.lt

set_option maxRecDepth 100000 in
set_option maxHeartbeats 400000 in
theorem sumTail_walk (A : Option Addr) (a : List UInt8) (c : Nat) (A2 : Option Addr) (b : List UInt8) (c2 : Nat) (w : World)
    (hr : Rd w w.heap.size 1 A a.length (bc a)) (hc : a.length ≤ c) (hm : c ≤ maxLen) (hn : a.length ≤ 1048576)
    (hr2 : Rd w w.heap.size 1 A2 b.length (bc b)) (hc2 : b.length ≤ c2) (hm2 : c2 ≤ maxLen) (hn2 : b.length ≤ 1048576) :
    Calls Try.prog 6 #[.slice A a.length c, .slice A2 b.length c2] w fun e w' => e = .returned (.bool true) ∧ Below w.heap.size w w' := by
  go_enter Try.func6, Try.ntmps6
  go_wp2_with fail
  refine (awake_calls w).mono ?_
  rintro e w0 ⟨rfl, hb0⟩
  go_wp2_with fail
  refine (New_calls w0).mono ?_
  rintro e w1 ⟨g, rfl, hg, hrun1, hb1⟩
  have hb01 := hb0.next hb1
  have s0 := hb0.size
  have s1 := hb1.size
  go_wp2_with fail
  refine (Add_calls g w0.heap.size [] none [] 0 w1 hrun1 hg ⟨by simp [bc], fun h => by simp at h⟩ (by simp) (by simp)).mono ?_
  rintro e w2 ⟨rfl, hrun2, hb2⟩
  go_wp2_with fail
  have hra := ((hr.belowW hb01 (Nat.le_refl _)).more s0).below hb2
  refine (Add_calls g w0.heap.size [] A a c w2 hrun2 hg hra (by omega) (by simp)).mono ?_
  rintro e w3 ⟨rfl, hrun3, hb3⟩
  rw [List.nil_append] at hrun3
  go_wp2_with fail
  refine (Add_calls g w0.heap.size a none [] 0 w3 hrun3 hg ⟨by simp [bc], fun h => by simp at h⟩ (by simp) (by omega)).mono ?_
  rintro e w4 ⟨rfl, hrun4, hb4⟩
  rw [List.append_nil] at hrun4
  go_wp2_with fail
  refine (End_calls g w0.heap.size a w4 hrun4 (by omega)).mono ?_
  rintro e w5 ⟨l5, e5, rfl, hb5⟩
  rw [e5.out]
  go_wp2_with fail
  have hrun5 := hrun4.belowW hb5
  refine (End_calls g w0.heap.size a w5 hrun5 (by omega)).mono ?_
  rintro e w6 ⟨l6, e6, rfl, hb6⟩
  rw [e6.out]
  have hrun6 := hrun5.belowW hb6
  have hw04 := ((hb1.trans (hb2.trans (hb3.trans hb4))).next hb5).next hb6
  have hrb := (hr2.belowW hb0 (Nat.le_refl _)).more s0
  have hrb6 := hrb.belowW hw04 (Nat.le_refl _)
  go_wp2_with fail
  refine (Add_calls g w0.heap.size a A2 b c2 w6 hrun6 hg hrb6 (by omega) (by omega)).mono ?_
  rintro e w7 ⟨rfl, hrun7, hb7⟩
  have hb07 : Below w0.heap.size w0 w7 := hw04.trans hb7
  have s7 := hb07.size
  have hra0 := (hr.belowW hb0 (Nat.le_refl _)).more s0
  have hra7 := (hra0.below hb07).more s7
  have hrb7 := (hrb.below hb07).more s7
  have hs7 := hrun7.lt
  clear hb1 hb2 hb3 hb4 hb5 hb6 hrb6 hra hrun1 hrun2 hrun3 hrun4 hrun5 hrun6
  go_wp2_with (at_builtin; refine app8 rfl (.tmp 28) (.tmp 29) rfl w7.heap.size _ 0 [] rfl ⟨by simp [bc], .inl ⟨rfl, rfl⟩⟩ w7.heap.size A a.length c a rfl hra7 (by omega) (Nat.le_refl _) ?_)
  intro l8 A8 c8 w8 e8 ho8 hb8 _ _ i1 i2
  have e8l : l8.length = a.length := by simp [e8.out]
  have E8 := Lib.hid e8l
  have hl8 : l8.length ≤ 1048576 := by omega
  clear e8l
  go_wp2_with (at_builtin; refine app8 rfl (.tmp 31) (.tmp 32) rfl w7.heap.size _ l8.length l8 rfl ho8 w7.heap.size A2 b.length c2 b rfl (hrb7.below hb8) (by omega) hb8.size ?_)
  intro l9 A9 c9 w9 e9 ho9 hb9 _ _ i3 i4
  have e9' : Hid (l9 = a ++ b) := by unfold Hid; simp [e9.out, e8.out]
  have e9l : l9.length ≤ 2097152 := by rw [e9'.out, List.length_append]; omega
  have hb79 := hb8.trans hb9
  have hb9w : Below w.heap.size w w9 := ((hb0.next hb07)).next hb79
  have hrun9 := hrun7.belowW hb79
  have hra9 := hra7.belowW hb79 (Nat.le_refl _) |>.more hb79.size
  clear e8 e9 hb8 hb9 ho8 hra0 hrb hw04
  go_wp2_with fail
  refine (Sum_calls A a c w9 hra9 (by omega)).mono ?_
  rintro e w10 ⟨l10, e10, rfl, hb10⟩
  rw [e10.out]
  have hrun10 := hrun9.belowW hb10
  go_wp2_with fail
  refine (End_calls g w0.heap.size (a ++ b) w10 hrun10 (by rw [List.length_append]; omega)).mono ?_
  rintro e w11 ⟨l11, e11, rfl, hb11⟩
  rw [e11.out]
  have hr9 := ((Rd.of_own ho9).belowW (hb10.next hb11) (Nat.le_refl _)).more (hb10.next hb11).size
  go_wp2_with fail
  refine (Sum_calls A9 l9 c9 w11 hr9 (by omega)).mono ?_
  rintro e w12 ⟨l12, e12, rfl, hb12⟩
  rw [e12.out, e9'.out]
  go_wp2_with fail
  go_ret
  exact ⟨rfl, ((hb9w.next hb10).next hb11).next hb12⟩
end Go.Proofs.Ytbogfnjjphidnaa
