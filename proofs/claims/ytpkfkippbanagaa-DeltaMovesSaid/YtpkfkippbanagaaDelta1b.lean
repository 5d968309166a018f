/- The walks of the layer 'delta': how many bytes two end with alike (the document's). Conditions: lengths below 2^47. -/
import Derived.Test.YtpkfkippbanagaaDelta1
namespace Go.Proofs.Ytpkfkippbanagaa
open Go.RowKit Go.Dol
set_option linter.unusedVariables false

set_option maxRecDepth 100000 in
set_option maxHeartbeats 800000 in
theorem refends_calls (A : Option Addr) (a : List UInt8) (c : Nat) (A2 : Option Addr) (b : List UInt8) (c2 : Nat) (w : World) (B B2 : Nat) (hr : Rd w B 1 A a.length (bc a)) (hr2 : Rd w B2 1 A2 b.length (bc b)) (ha : a.length ≤ 140737488355328) (hb : b.length ≤ 140737488355328) :
    Calls Try.prog 39 #[.slice A a.length c, .slice A2 b.length c2] w fun e w' => e = .returned (.int .i64 (ends a b : Nat)) ∧ ∃ n, w' = w.drewN n := by
  go_enter Try.func39, Try.ntmps39
  go_wp2_with fail
  go_loopw [5] (fun n wr => EndsRel a b w n wr) (fun n _ => a.length - (intOf n).toNat)
  case atStart => exact ⟨0, 0, rfl, by omega, by omega, fun j hj => by omega, rfl⟩
  case round =>
    obtain ⟨m, q, rfl, hm, hm2, hs, hwr⟩ := hrel
    have hrw : Rd wr B 1 A a.length (bc a) := by rw [hwr.out]; exact hr.drewN q
    have hrw2 : Rd wr B2 1 A2 b.length (bc b) := by rw [hwr.out]; exact hr2.drewN q
    have hm0 : (0 : Int) ≤ (m : Int) := by omega
    have f1 : IntKind.i64.wrap ((m : Int) + 1) = (m : Int) + 1 := IntWalk.i64_in _ (by omega)
    by_cases h1 : m < a.length
    · have d1 : decide ((m : Int) < (a.length : Int)) = true := by simp; omega
      have d1' : (m : Int) < (a.length : Int) := by omega
      by_cases h2 : m < b.length
      · have d2 : decide ((m : Int) < (b.length : Int)) = true := by simp; omega
        have d2' : (m : Int) < (b.length : Int) := by omega
        have k1 : IntKind.i64.wrap ((a.length : Int) - 1) = (a.length : Int) - 1 := IntWalk.i64_in _ (by omega)
        have k2 : IntKind.i64.wrap ((b.length : Int) - 1) = (b.length : Int) - 1 := IntWalk.i64_in _ (by omega)
        have k3 : IntKind.i64.wrap ((a.length : Int) - 1 - (m : Int)) = (a.length : Int) - 1 - (m : Int) := IntWalk.i64_in _ (by omega)
        have k4 : IntKind.i64.wrap ((b.length : Int) - 1 - (m : Int)) = (b.length : Int) - 1 - (m : Int) := IntWalk.i64_in _ (by omega)
        have p1 : ((a.length : Int) - 1 - (m : Int)).toNat = a.length - 1 - m := by omega
        have p2 : ((b.length : Int) - 1 - (m : Int)).toNat = b.length - 1 - m := by omega
        have r1 : (0 : Int) ≤ (a.length : Int) - 1 - (m : Int) := by omega
        have r2 : (0 : Int) ≤ (b.length : Int) - 1 - (m : Int) := by omega
        have r3 : (a.length : Int) - 1 - (m : Int) < (a.length : Int) := by omega
        have r4 : (b.length : Int) - 1 - (m : Int) < (b.length : Int) := by omega
        obtain ⟨bb, off, rfl, hbb, hcell⟩ := hrw.at_ (by omega)
        obtain ⟨bb2, off2, rfl, hbb2, hcell2⟩ := hrw2.at_ (by omega)
        have c1 := hcell (a.length - 1 - m) _ (bc_get a (a.length - 1 - m) (by omega))
        have c2 := hcell2 (b.length - 1 - m) _ (bc_get b (b.length - 1 - m) (by omega))
        have g1 : a[a.length - 1 - m]? = some a[a.length - 1 - m] := List.getElem?_eq_getElem (by omega)
        have g2 : b[b.length - 1 - m]? = some b[b.length - 1 - m] := List.getElem?_eq_getElem (by omega)
        obtain ⟨x, hx⟩ : ∃ x, x = (a[a.length - 1 - m]).toNat := ⟨_, rfl⟩
        obtain ⟨y, hy⟩ : ∃ y, y = (b[b.length - 1 - m]).toNat := ⟨_, rfl⟩
        rw [← hx] at c1
        rw [← hy] at c2
        have hxy : Hid (a[a.length - 1 - m]? = b[b.length - 1 - m]? ↔ x = y) := by
          unfold Hid
          rw [g1, g2, hx, hy]
          constructor
          · intro h; injection h with h; rw [h]
          · intro h; rw [UInt8.toNat_inj.1 h]
        clear hx hy g1 g2 hcell hcell2
        by_cases h3 : x = y
        · have hq := hxy.out.2 h3
          have HQ := Lib.hid hq
          clear hq hxy
          subst h3
          go_wp2_with fail
          go_quiet (fail)
          go_wp2_with fail
          refine ⟨⟨m + 1, q + nq, by go_num, by omega, by omega, ?_, ?_⟩, by simp [intOf]; omega⟩
          · intro j hj
            by_cases hjm : j = m
            · rw [hjm]; exact HQ.out
            · exact hs.out j (by omega)
          · unfold Hid; rw [hwr.out, World.drewN_drewN]
        · have hq : ¬ (a[a.length - 1 - m]? = b[b.length - 1 - m]?) := fun h => h3 (hxy.out.1 h)
          have HQ := Lib.hid hq
          have d3 : ((x : Int) == (y : Int)) = false := by simp; omega
          have hst := ends_stop (a := a) (b := b) (n := m) (by omega) (by omega) hs.out (.inr (.inr HQ.out))
          have HA := Lib.hid hst
          clear hq hxy hst
          go_wp2_with fail
          go_quiet (fail)
          go_wp2_with fail
          go_ret
          exact ⟨by rw [HA.out]; rfl, q + nq, by rw [hwr.out, World.drewN_drewN]⟩
      · have d2 : decide ((m : Int) < (b.length : Int)) = false := by simp; omega
        have d2' : ¬ ((m : Int) < (b.length : Int)) := by omega
        have hst := ends_stop (a := a) (b := b) (n := m) (by omega) (by omega) hs.out (.inr (.inl (by omega)))
        have HA := Lib.hid hst
        clear hst
        go_wp2_with fail
        go_quiet (fail)
        go_wp2_with fail
        go_ret
        exact ⟨by rw [HA.out]; rfl, q + nq, by rw [hwr.out, World.drewN_drewN]⟩
    · have d1 : decide ((m : Int) < (a.length : Int)) = false := by simp; omega
      have d1' : ¬ ((m : Int) < (a.length : Int)) := by omega
      have hst := ends_stop (a := a) (b := b) (n := m) (by omega) (by omega) hs.out (.inl (by omega))
      have HA := Lib.hid hst
      clear hst
      go_wp2_with fail
      go_quiet (fail)
      go_wp2_with fail
      go_ret
      exact ⟨by rw [HA.out]; rfl, q + nq, by rw [hwr.out, World.drewN_drewN]⟩
end Go.Proofs.Ytpkfkippbanagaa
