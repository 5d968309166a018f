/- The walks of the layer 'press', its eighth part: four bytes at a place; how many are alike. Conditions: lengths below 2^47. -/
import Derived.Test.YtjikoeokmdnciaaPress1
import Derived.Test.YtjikoeokmdnciaaMapL
import Derived.Laws.Cover3
namespace Go.Proofs.Ytjikoeokmdnciaa
open Go.RowKit Go.Dol
set_option linter.unusedVariables false
attribute [local irreducible] wpStill

theorem take_four {b : List UInt8} {i : Nat} (h : i + 4 ≤ b.length) : (b.drop i).take 4 = [b[i], b[i + 1], b[i + 2], b[i + 3]] := by
  rw [List.drop_eq_getElem_cons (by omega), List.drop_eq_getElem_cons (by omega), List.drop_eq_getElem_cons (by omega), List.drop_eq_getElem_cons (by omega)]
  rfl

set_option maxRecDepth 100000 in
set_option maxHeartbeats 800000 in
theorem at_calls (A : Option Addr) (b : List UInt8) (c i : Nat) (w : World) (hr : Rd w w.heap.size 1 A b.length (bc b)) (hb : b.length ≤ 140737488355328) (hc : b.length ≤ c) (hi : i + 4 ≤ b.length) :
    Calls Try.prog 43 #[.slice A b.length c, .int .i64 i] w fun e w' => e = .returned (.agg (bc ((b.drop i).take 4)).toArray) ∧ Below w.heap.size w w' := by
  obtain ⟨bb, off, rfl, hbb, hcell⟩ := hr.at_ (by omega)
  rw [take_four hi]
  have q0 := hcell i _ (bc_get b i (by omega))
  have q1 := hcell (i + 1) _ (bc_get b (i + 1) (by omega))
  have q2 := hcell (i + 2) _ (bc_get b (i + 2) (by omega))
  have q3 := hcell (i + 3) _ (bc_get b (i + 3) (by omega))
  obtain ⟨x0, hx0⟩ : ∃ x, x = b[i] := ⟨_, rfl⟩
  obtain ⟨x1, hx1⟩ : ∃ x, x = b[i + 1] := ⟨_, rfl⟩
  obtain ⟨x2, hx2⟩ : ∃ x, x = b[i + 2] := ⟨_, rfl⟩
  obtain ⟨x3, hx3⟩ : ∃ x, x = b[i + 3] := ⟨_, rfl⟩
  rw [← hx0] at q0 ⊢
  rw [← hx1] at q1 ⊢
  rw [← hx2] at q2 ⊢
  rw [← hx3] at q3 ⊢
  simp only [bc, List.map_cons, List.map_nil]
  have r1 : (i : Int) + 4 ≤ (c : Int) := by omega
  have f1 : IntKind.i64.wrap ((i : Int) + 4) = (i : Int) + 4 := IntWalk.i64_in _ (by omega)
  have hcn : ¬ c = i := by omega
  have p1 : i + 4 - i = 4 := by omega
  have harr : ∀ w : World, (Instr.arrayAt 59 (.slice (some ⟨bb, off + i, none⟩) 4 (c - i))).run Try.prog w = .ok (.pointer (some ⟨bb, off + i, none⟩)) w := fun w => run_arrayAt w _ _ 4 _ 4 _ Try.underlying59 (Nat.le_refl _)
  have q1' : w.cell? ⟨bb, off + i + 1, none⟩ = some (.int .u8 x1.toNat) := q1
  have q2' : w.cell? ⟨bb, off + i + 2, none⟩ = some (.int .u8 x2.toNat) := q2
  have q3' : w.cell? ⟨bb, off + i + 3, none⟩ = some (.int .u8 x3.toNat) := q3
  clear hx0 hx1 hx2 hx3 hcell
  go_enter Try.func43, Try.ntmps43
  go_wp2_with fail
  exact bodyPost_ret (v := .agg #[.int .u8 x0.toNat, .int .u8 x1.toNat, .int .u8 x2.toNat, .int .u8 x3.toNat]) (by simp [results, Try.results43, go_sem]) rfl ⟨rfl, (Below.refl _ _).alloc (Nat.le_refl _) _⟩

set_option maxRecDepth 100000 in
set_option maxHeartbeats 800000 in
theorem alike_calls (fb : Nat) (vm vk : Value) (A : Option Addr) (b : List UInt8) (c k i : Nat) (w : World) (B : Nat) (hf : Blk w fb 47 [.slice A b.length c, vm, vk]) (hr : Rd w B 1 A b.length (bc b)) (hb : b.length ≤ 140737488355328) (hk : k < i) (hi : i ≤ b.length) :
    Calls Try.prog 44 #[.pointer (some ⟨fb, 0, none⟩), .int .i64 k, .int .i64 i] w fun e w' => e = .returned (.int .i64 (alikeN b k i : Nat)) ∧ ∃ n, w' = w.drewN n := by
  go_enter Try.func44, Try.ntmps44
  go_wp2_with fail
  go_loopw [7] (fun n wr => AlikeRel b k i w n wr) (fun n _ => 259 - (intOf n).toNat)
  case atStart => exact ⟨0, 0, rfl, by omega, by omega, fun j hj => by omega, rfl⟩
  case round =>
    obtain ⟨m, q, rfl, hm, him, hs, hwr⟩ := hrel
    have hrw : Rd wr B 1 A b.length (bc b) := by rw [hwr.out]; exact hr.drewN q
    have hfw : Blk wr fb 47 [.slice A b.length c, vm, vk] := by rw [hwr.out]; exact hf.drewN q
    have c0 : wr.cell? ⟨fb, 0, none⟩ = some (.slice A b.length c) := by rw [hfw.cell]; rfl
    have hm0 : (0 : Int) ≤ (m : Int) := by omega
    have f1 : IntKind.i64.wrap ((i : Int) + (m : Int)) = (i : Int) + (m : Int) := IntWalk.i64_in _ (by omega)
    have f2 : IntKind.i64.wrap ((k : Int) + (m : Int)) = (k : Int) + (m : Int) := IntWalk.i64_in _ (by omega)
    by_cases h1 : m < 259
    · have d1 : decide ((m : Int) < 259) = true := by simp; omega
      have d1' : (m : Int) < 259 := by omega
      by_cases h2 : i + m < b.length
      · have d2 : decide ((i : Int) + (m : Int) < (b.length : Int)) = true := by simp; omega
        have d2' : (i : Int) + (m : Int) < (b.length : Int) := by omega
        obtain ⟨bb, off, rfl, hbb, hcell⟩ := hrw.at_ (by omega)
        have c1 := hcell (k + m) _ (bc_get b (k + m) (by omega))
        have c2 := hcell (i + m) _ (bc_get b (i + m) h2)
        have g1 : b[k + m]? = some b[k + m] := List.getElem?_eq_getElem (by omega)
        have g2 : b[i + m]? = some b[i + m] := List.getElem?_eq_getElem h2
        obtain ⟨x, hx⟩ : ∃ x, x = (b[k + m]).toNat := ⟨_, rfl⟩
        obtain ⟨y, hy⟩ : ∃ y, y = (b[i + m]).toNat := ⟨_, rfl⟩
        rw [← hx] at c1
        rw [← hy] at c2
        have p1 : ((i : Int) + (m : Int)).toNat = i + m := by omega
        have p2 : ((k : Int) + (m : Int)).toNat = k + m := by omega
        have r1 : (0 : Int) ≤ (k : Int) + (m : Int) := by omega
        have r2 : (k : Int) + (m : Int) < (b.length : Int) := by omega
        have r3 : (0 : Int) ≤ (i : Int) + (m : Int) := by omega
        have hxy : Hid (b[k + m]? = b[i + m]? ↔ x = y) := by
          unfold Hid
          rw [g1, g2, hx, hy]
          constructor
          · intro h; injection h with h; rw [h]
          · intro h; rw [UInt8.toNat_inj.1 h]
        clear hx hy g1 g2 hcell
        by_cases h3 : x = y
        · have hq := hxy.out.2 h3
          have HQ := Lib.hid hq
          clear hq hxy
          subst h3
          go_wp2_with fail
          go_quiet (fail)
          go_wp2_with fail
          refine ⟨⟨m + 1, q + nq, by go_num, by omega, by omega, ?_, ?_⟩, by simp [intOf]; omega⟩
          · intro j hj
            by_cases hjm : j = m
            · rw [hjm]; exact HQ.out
            · exact hs.out j (by omega)
          · unfold Hid; rw [hwr.out, World.drewN_drewN]
        · have hq : ¬ (b[k + m]? = b[i + m]?) := fun h => h3 (hxy.out.1 h)
          have HQ := Lib.hid hq
          have d3 : ((x : Int) == (y : Int)) = false := by simp; omega
          have ha := alike_stop (b := b) (k := k) (i := i) (n := m) (by omega) (by omega) (by omega) hs.out (.inr (.inr HQ.out))
          have HA := Lib.hid ha
          clear hq hxy ha
          go_wp2_with fail
          go_quiet (fail)
          go_wp2_with fail
          go_ret
          exact ⟨by rw [HA.out]; rfl, q + nq, by rw [hwr.out, World.drewN_drewN]⟩
      · have d2 : decide ((i : Int) + (m : Int) < (b.length : Int)) = false := by simp; omega
        have d2' : ¬ ((i : Int) + (m : Int) < (b.length : Int)) := by omega
        have ha := alike_stop (b := b) (k := k) (i := i) (n := m) (by omega) (by omega) (by omega) hs.out (.inr (.inl (by omega)))
        have HA := Lib.hid ha
        clear ha
        go_wp2_with fail
        go_quiet (fail)
        go_wp2_with fail
        go_ret
        exact ⟨by rw [HA.out]; rfl, q + nq, by rw [hwr.out, World.drewN_drewN]⟩
    · have hm9 : m = 259 := by omega
      have d1 : decide ((m : Int) < 259) = false := by simp; omega
      have d1' : ¬ ((m : Int) < 259) := by omega
      have ha := alike_stop (b := b) (k := k) (i := i) (n := m) (by omega) (by omega) (by omega) hs.out (.inl hm9)
      have HA := Lib.hid ha
      have HM := Lib.hid hm9
      clear ha hm9
      go_wp2_with fail
      go_quiet (fail)
      go_wp2_with fail
      go_ret
      exact ⟨by rw [HA.out]; rfl, q + nq, by rw [hwr.out, World.drewN_drewN]⟩

end Go.Proofs.Ytjikoeokmdnciaa
