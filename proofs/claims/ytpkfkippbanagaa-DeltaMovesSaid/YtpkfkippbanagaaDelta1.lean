/- The walks of the layer 'delta', its first part: the document's functions but for Encode and Apply. Conditions: lengths below 2^47. -/
import Derived.Test.YtpkfkippbanagaaCodeN
import Derived.Test.YtpkfkippbanagaaBlk
import Derived.Test.YtpkfkippbanagaaDeltaLaw
import Derived.Deep.QuietTactic
import Derived.BigQuiet
namespace Go.Dol
theorem begins_stop {a b : List UInt8} {n : Nat} (h1 : n ≤ a.length) (h2 : n ≤ b.length) (h : ∀ j, j < n → a[j]? = b[j]?) (hs : n = a.length ∨ n = b.length ∨ a[n]? ≠ b[n]?) : begins a b = n := by
  have h3 := begins_ge h1 h2 h
  have h4 := begins_le a b
  rcases Nat.lt_or_ge n (begins a b) with h5 | h5
  · rcases hs with hs | hs | hs
    · omega
    · omega
    · exact absurd (begins_same h5) hs
  · omega
theorem ends_stop {a b : List UInt8} {n : Nat} (h1 : n ≤ a.length) (h2 : n ≤ b.length) (h : ∀ j, j < n → a[a.length - 1 - j]? = b[b.length - 1 - j]?) (hs : n = a.length ∨ n = b.length ∨ a[a.length - 1 - n]? ≠ b[b.length - 1 - n]?) : ends a b = n := by
  unfold ends
  refine begins_stop (by simpa using h1) (by simpa using h2) (fun j hj => ?_) ?_
  · rw [List.getElem?_reverse (by omega), List.getElem?_reverse (by omega)]
    exact h j hj
  · rcases hs with hs | hs | hs
    · exact .inl (by simpa using hs)
    · exact .inr (.inl (by simpa using hs))
    · rcases Nat.lt_or_ge n a.length with h3 | h3
      · rcases Nat.lt_or_ge n b.length with h4 | h4
        · refine .inr (.inr ?_)
          rw [List.getElem?_reverse h3, List.getElem?_reverse h4]
          exact hs
        · exact .inr (.inl (by rw [List.length_reverse]; omega))
      · exact .inl (by rw [List.length_reverse]; omega)
end Go.Dol
namespace Go.Proofs.Ytpkfkippbanagaa
open Go.RowKit Go.Dol
set_option linter.unusedVariables false

def BeginsRel (a b : List UInt8) (w : World) (n : Value) (wr : World) : Prop :=
  ∃ m q : Nat, n = .int .i64 m ∧ m ≤ a.length ∧ m ≤ b.length ∧ Hid (∀ j, j < m → a[j]? = b[j]?) ∧ Hid (wr = w.drewN q)
def EndsRel (a b : List UInt8) (w : World) (n : Value) (wr : World) : Prop :=
  ∃ m q : Nat, n = .int .i64 m ∧ m ≤ a.length ∧ m ≤ b.length ∧ Hid (∀ j, j < m → a[a.length - 1 - j]? = b[b.length - 1 - j]?) ∧ Hid (wr = w.drewN q)

set_option maxRecDepth 100000 in
set_option maxHeartbeats 800000 in
theorem refbegins_calls (A : Option Addr) (a : List UInt8) (c : Nat) (A2 : Option Addr) (b : List UInt8) (c2 : Nat) (w : World) (B B2 : Nat) (hr : Rd w B 1 A a.length (bc a)) (hr2 : Rd w B2 1 A2 b.length (bc b)) (ha : a.length ≤ 140737488355328) (hb : b.length ≤ 140737488355328) :
    Calls Try.prog 38 #[.slice A a.length c, .slice A2 b.length c2] w fun e w' => e = .returned (.int .i64 (begins a b : Nat)) ∧ ∃ n, w' = w.drewN n := by
  go_enter Try.func38, Try.ntmps38
  go_wp2_with fail
  go_loopw [5] (fun n wr => BeginsRel a b w n wr) (fun n _ => a.length - (intOf n).toNat)
  case atStart => exact ⟨0, 0, rfl, by omega, by omega, fun j hj => by omega, rfl⟩
  case round =>
    obtain ⟨m, q, rfl, hm, hm2, hs, hwr⟩ := hrel
    have hrw : Rd wr B 1 A a.length (bc a) := by rw [hwr.out]; exact hr.drewN q
    have hrw2 : Rd wr B2 1 A2 b.length (bc b) := by rw [hwr.out]; exact hr2.drewN q
    have hm0 : (0 : Int) ≤ (m : Int) := by omega
    have f1 : IntKind.i64.wrap ((m : Int) + 1) = (m : Int) + 1 := IntWalk.i64_in _ (by omega)
    by_cases h1 : m < a.length
    · have d1 : decide ((m : Int) < (a.length : Int)) = true := by simp; omega
      have d1' : (m : Int) < (a.length : Int) := by omega
      by_cases h2 : m < b.length
      · have d2 : decide ((m : Int) < (b.length : Int)) = true := by simp; omega
        have d2' : (m : Int) < (b.length : Int) := by omega
        obtain ⟨bb, off, rfl, hbb, hcell⟩ := hrw.at_ (by omega)
        obtain ⟨bb2, off2, rfl, hbb2, hcell2⟩ := hrw2.at_ (by omega)
        have c1 := hcell m _ (bc_get a m h1)
        have c2 := hcell2 m _ (bc_get b m h2)
        have g1 : a[m]? = some a[m] := List.getElem?_eq_getElem h1
        have g2 : b[m]? = some b[m] := List.getElem?_eq_getElem h2
        obtain ⟨x, hx⟩ : ∃ x, x = (a[m]).toNat := ⟨_, rfl⟩
        obtain ⟨y, hy⟩ : ∃ y, y = (b[m]).toNat := ⟨_, rfl⟩
        rw [← hx] at c1
        rw [← hy] at c2
        have hxy : Hid (a[m]? = b[m]? ↔ x = y) := by
          unfold Hid
          rw [g1, g2, hx, hy]
          constructor
          · intro h; injection h with h; rw [h]
          · intro h; rw [UInt8.toNat_inj.1 h]
        clear hx hy g1 g2 hcell hcell2
        by_cases h3 : x = y
        · have hq := hxy.out.2 h3
          have HQ := Lib.hid hq
          clear hq hxy
          subst h3
          go_wp2_with fail
          go_quiet (fail)
          go_wp2_with fail
          refine ⟨⟨m + 1, q + nq, by go_num, by omega, by omega, ?_, ?_⟩, by simp [intOf]; omega⟩
          · intro j hj
            by_cases hjm : j = m
            · rw [hjm]; exact HQ.out
            · exact hs.out j (by omega)
          · unfold Hid; rw [hwr.out, World.drewN_drewN]
        · have hq : ¬ (a[m]? = b[m]?) := fun h => h3 (hxy.out.1 h)
          have HQ := Lib.hid hq
          have d3 : ((x : Int) == (y : Int)) = false := by simp; omega
          have hst := begins_stop (a := a) (b := b) (n := m) (by omega) (by omega) hs.out (.inr (.inr HQ.out))
          have HA := Lib.hid hst
          clear hq hxy hst
          go_wp2_with fail
          go_quiet (fail)
          go_wp2_with fail
          go_ret
          exact ⟨by rw [HA.out]; rfl, q + nq, by rw [hwr.out, World.drewN_drewN]⟩
      · have d2 : decide ((m : Int) < (b.length : Int)) = false := by simp; omega
        have d2' : ¬ ((m : Int) < (b.length : Int)) := by omega
        have hst := begins_stop (a := a) (b := b) (n := m) (by omega) (by omega) hs.out (.inr (.inl (by omega)))
        have HA := Lib.hid hst
        clear hst
        go_wp2_with fail
        go_quiet (fail)
        go_wp2_with fail
        go_ret
        exact ⟨by rw [HA.out]; rfl, q + nq, by rw [hwr.out, World.drewN_drewN]⟩
    · have d1 : decide ((m : Int) < (a.length : Int)) = false := by simp; omega
      have d1' : ¬ ((m : Int) < (a.length : Int)) := by omega
      have hst := begins_stop (a := a) (b := b) (n := m) (by omega) (by omega) hs.out (.inl (by omega))
      have HA := Lib.hid hst
      clear hst
      go_wp2_with fail
      go_quiet (fail)
      go_wp2_with fail
      go_ret
      exact ⟨by rw [HA.out]; rfl, q + nq, by rw [hwr.out, World.drewN_drewN]⟩
end Go.Proofs.Ytpkfkippbanagaa
