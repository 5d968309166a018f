/- The walks of the layer 'delta': the first block that some bytes begin with (the document's). Conditions: lengths below 2^47. -/
import Derived.Test.YtpkfkippbanagaaDelta1
import Derived.Test.YtpkfkippbanagaaDeltaIndex
namespace Go.Proofs.Ytpkfkippbanagaa
open Go.RowKit Go.Dol
set_option linter.unusedVariables false

theorem refbegins_n (A : Option Addr) (a : List UInt8) (n c : Nat) (A2 : Option Addr) (b : List UInt8) (n2 c2 : Nat) (w : World) (B B2 : Nat) (hn : n = a.length) (hn2 : n2 = b.length) (hr : Rd w B 1 A n (bc a)) (hr2 : Rd w B2 1 A2 n2 (bc b)) (ha : n ≤ 140737488355328) (hb : n2 ≤ 140737488355328) :
    Calls Try.prog 38 #[.slice A n c, .slice A2 n2 c2] w fun e w' => e = .returned (.int .i64 (begins a b : Nat)) ∧ ∃ n, w' = w.drewN n := by
  subst hn
  subst hn2
  exact refbegins_calls A a c A2 b c2 w B B2 hr hr2 ha hb
def blockI (r : Option Nat) : Int := match r with | none => -1 | some k => (k : Int)
def BlockRel (b x : List UInt8) (w : World) (k : Value) (wr : World) : Prop :=
  ∃ m q i : Nat, k = .int .i64 i ∧ Hid (i = 16 * m) ∧ i ≤ b.length ∧ Hid (∀ m', m' < m → 16 ≤ x.length → (b.drop (0 + 16 * m')).take 16 ≠ x.take 16) ∧ Hid (wr = w.drewN q)

set_option maxRecDepth 100000 in
set_option maxHeartbeats 800000 in
theorem refblock_calls (A : Option Addr) (b : List UInt8) (c : Nat) (A2 : Option Addr) (x : List UInt8) (c2 : Nat) (w : World) (B B2 : Nat) (hr : Rd w B 1 A b.length (bc b)) (hr2 : Rd w B2 1 A2 x.length (bc x)) (hc : b.length ≤ c) (hb : b.length ≤ 140737488355328) (hx : x.length ≤ 140737488355328) :
    Calls Try.prog 41 #[.slice A b.length c, .slice A2 x.length c2] w fun e w' => e = .returned (.int .i64 (blockI (blockAt b x))) ∧ ∃ n, w' = w.drewN n := by
  go_enter Try.func41, Try.ntmps41
  go_wp2_with fail
  go_loopw [5] (fun k wr => BlockRel b x w k wr) (fun k _ => b.length + 1 - (intOf k).toNat)
  case atStart => exact ⟨0, 0, 0, rfl, rfl, Nat.zero_le _, fun _ h => by omega, rfl⟩
  case round =>
    obtain ⟨m, q, i, rfl, him, hi, hs, hwr⟩ := hrel
    have hrw : Rd wr B 1 A b.length (bc b) := by rw [hwr.out]; exact hr.drewN q
    have hrw2 : Rd wr B2 1 A2 x.length (bc x) := by rw [hwr.out]; exact hr2.drewN q
    have f1 : IntKind.i64.wrap ((i : Int) + 16) = (i : Int) + 16 := IntWalk.i64_in _ (by omega)
    by_cases h1 : i + 16 ≤ b.length
    · have d1 : decide ((i : Int) + 16 ≤ (b.length : Int)) = true := by simp; omega
      have d1' : (i : Int) + 16 ≤ (b.length : Int) := by omega
      by_cases h2 : 16 ≤ x.length
      · have d2 : decide ((16 : Int) ≤ (x.length : Int)) = true := by simp; omega
        have d2' : (16 : Int) ≤ (x.length : Int) := by omega
        have hcut := hrw.cut (lo := i) (hi := i + 16) (cap := c) (by omega) h1 hc
        rw [if_neg (by omega), Nat.mul_one, Nat.mul_one, bc_drop, bc_take, show i + 16 - i = 16 by omega] at hcut
        have hlen : 16 = ((b.drop i).take 16).length := by rw [List.length_take, List.length_drop]; omega
        have HLE := Lib.hid hlen
        clear hlen
        have hcc : (i : Int) + 16 ≤ (c : Int) := by omega
        have hci : ¬ c = i := by omega
        have p1 : i + 16 - i = 16 := by omega
        go_wp2_with fail
        refine (refbegins_n _ ((b.drop i).take 16) 16 _ A2 x x.length c2 wr B B2 HLE.out rfl hcut hrw2 (by omega) hx).mono ?_
        rintro e w2 ⟨rfl, q2, hw2⟩
        have hw2' : Hid (w2 = w.drewN (q + q2)) := by unfold Hid; rw [hw2, hwr.out, World.drewN_drewN]
        have hbl := begins_le ((b.drop i).take 16) x
        rw [← HLE.out] at hbl
        have hiff : Hid (begins ((b.drop i).take 16) x = 16 ↔ (b.drop i).take 16 = x.take 16) := by
          constructor
          · intro h
            have := begins_take (a := (b.drop i).take 16) (b := x) (n := 16) (by omega)
            rw [List.take_take, Nat.min_self] at this
            exact this
          · intro h
            have := begins_of_take (a := (b.drop i).take 16) (b := x) (n := 16) (by rw [← HLE.out]; exact Nat.le_refl _) h2 (by rw [List.take_take, Nat.min_self]; exact h)
            omega
        obtain ⟨g, hg⟩ : ∃ g, g = begins ((b.drop i).take 16) x := ⟨_, rfl⟩
        rw [← hg] at hiff hbl ⊢
        clear hw2 hcut hg hrw hrw2
        by_cases h3 : g = 16
        · have d3 : ((g : Int) == 16) = true := by simp; omega
          have hE := hiff.out.1 h3
          have hres : Hid (blockAt b x = some i) := by
            unfold Hid blockAt
            rw [if_pos h2, blockF_is m b.length 0 (by omega) (by have := him.out; omega) (by rw [Nat.zero_add, ← him.out]; exact hE) (fun m' hm' => hs.out m' hm' h2), Nat.zero_add, ← him.out]
          have H3 := Lib.hid h3
          clear h3 hE hiff
          go_wp2_with fail
          go_ret
          exact ⟨by rw [hres.out]; rfl, q + q2, hw2'.out⟩
        · have d3 : ((g : Int) == 16) = false := by simp; omega
          have hE : Hid (¬ (b.drop i).take 16 = x.take 16) := fun h => h3 (hiff.out.2 h)
          clear hiff
          go_wp2_with fail
          refine ⟨⟨m + 1, q + q2, i + 16, by go_num, by have := him.out; unfold Hid; omega, h1, fun m' hm' h => ?_, hw2'⟩, by simp [intOf]; omega⟩
          rcases Nat.lt_or_ge m' m with h5 | h5
          · exact hs.out m' h5 h
          · obtain rfl : m' = m := by omega
            rw [Nat.zero_add, ← him.out]
            exact hE.out
      · have d2 : decide ((16 : Int) ≤ (x.length : Int)) = false := by simp; omega
        have d2' : ¬ (16 : Int) ≤ (x.length : Int) := by omega
        go_wp2_with fail
        exact ⟨⟨m + 1, q, i + 16, by go_num, by have := him.out; unfold Hid; omega, h1, fun m' hm' h => absurd h h2, hwr⟩, by simp [intOf]; omega⟩
    · have d1 : decide ((i : Int) + 16 ≤ (b.length : Int)) = false := by simp; omega
      have d1' : ¬ (i : Int) + 16 ≤ (b.length : Int) := by omega
      have hres : Hid (blockAt b x = none) := by
        unfold Hid blockAt
        split
        · exact blockF_none _ _ fun m' hm' => hs.out m' (by have := him.out; omega) (by assumption)
        · rfl
      go_wp2_with fail
      go_ret
      exact ⟨by rw [hres.out]; rfl, q, hwr.out⟩
end Go.Proofs.Ytpkfkippbanagaa
