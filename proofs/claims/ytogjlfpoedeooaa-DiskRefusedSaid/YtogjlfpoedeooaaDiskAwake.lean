/- The walk of the laws' example of a disk: 100 bytes, four appends, a cut. Conditions: none. -/
import Derived.Test.YtogjlfpoedeooaaDisk5
import Derived.Test.YtogjlfpoedeooaaDisk10
import Derived.Lib.SlBytesConst
import Derived.KernelRfl
import Derived.Test.YtogjlfpoedeooaaU8
namespace Go.Dol
open Go.RowKit
set_option linter.unusedVariables false
def aN : ByteArray := ⟨#[97]⟩
def aT : List UInt8 := [48, 49, 50, 51, 52, 53, 54, 55, 56, 57]
def aw1 : Dk := ⟨100, [(aN, aT)], 1, -1, false⟩
def aw2 : Dk := ⟨100, [(aN, aT)], 1, 1, false⟩
def aw3 : Dk := ⟨100, [(aN, aT)], 2, 0, false⟩
def aw4 : Dk := ⟨100, [(aN, aT)], 2, -1, true⟩
def aw5 : Dk := ⟨100, [(aN, aT)], 2, -1, false⟩
def aw6 : Dk := ⟨100, [(aN, aT ++ [120])], 3, -1, false⟩
theorem aw_1 : appD ⟨100, [], 0, -1, false⟩ aN aT = (0, aw1) := by kernel_rfl
theorem aw_2 : cutD aw1 1 = (0, aw2) := by kernel_rfl
theorem aw_3 : appD aw2 aN [] = (0, aw3) := by kernel_rfl
theorem aw_4 : appD aw3 aN [120] = (5, aw4) := by kernel_rfl
theorem aw_5 : onD aw4 = aw5 := by kernel_rfl
theorem aw_6 : appD aw5 aN [120] = (0, aw6) := by kernel_rfl
theorem aw_7 : readD aw6 aN = (aT ++ [120], 0) := by kernel_rfl
theorem aw_8 : frD aw1 = 73 := by kernel_rfl

end Go.Dol
namespace Go.Proofs.Ytogjlfpoedeooaa
open Go.RowKit Go.Dol
set_option linter.unusedVariables false
/-- Bytes of a constant, just made. -/
theorem Far.litD (w : World) (B : Nat) (l : List UInt8) (fr : Nat × Nat) : Far (w.alloc (.cells (bc l).toArray 5 fr)) B (some ⟨w.heap.size, 0, none⟩) l := by
  have hh := heap_alloc_new w (.cells (bc l).toArray 5 fr)
  refine ⟨⟨by rw [bc_length]; omega, fun _ => ⟨w.heap.size, 0, rfl, by simp, fun j u hu => ?_⟩⟩, fun _ k hk => .inr ?_⟩
  · rw [Nat.zero_add, cell_of_row _ _ _ _ _ fr hh]
    simpa using hu
  · injection hk with hk
    have e : w.heap.size = k := hk
    rw [← e]
    exact ⟨_, fr, hh⟩
set_option maxRecDepth 100000 in
set_option maxHeartbeats 4000000 in
theorem awake4_calls (w : World) : Calls Try.prog 26 #[] w fun e w' => e = .returned (.bool true) ∧ Below w.heap.size w w' := by
  have K0 : OkD (newD 100) := ⟨List.Pairwise.nil, by decide, by decide, by decide, by decide, by decide, fun f hf => (List.not_mem_nil hf).elim⟩
  have s1 : appD (newD 100) ⟨#[97]⟩ [48, 49, 50, 51, 52, 53, 54, 55, 56, 57] = (0, aw1) := aw_1
  have K1 : OkD aw1 := by have h := K0.app ⟨#[97]⟩ [48, 49, 50, 51, 52, 53, 54, 55, 56, 57]; rw [s1] at h; exact h
  have K2 : OkD aw2 := by have h := K1.cut (k := 1) (by omega); rw [aw_2] at h; exact h
  have s3 : appD aw2 ⟨#[97]⟩ [] = (0, aw3) := aw_3
  have K3 : OkD aw3 := by have h := K2.app ⟨#[97]⟩ []; rw [s3] at h; exact h
  have s4 : appD aw3 ⟨#[97]⟩ [120] = (5, aw4) := aw_4
  have K4 : OkD aw4 := by have h := K3.app ⟨#[97]⟩ [120]; rw [s4] at h; exact h
  have K5 : OkD aw5 := by have h := K4.on; rw [aw_5] at h; exact h
  have s6 : appD aw5 ⟨#[97]⟩ [120] = (0, aw6) := aw_6
  have K6 : OkD aw6 := by have h := K5.app ⟨#[97]⟩ [120]; rw [s6] at h; exact h
  have s7 : readD aw6 ⟨#[97]⟩ = ([48, 49, 50, 51, 52, 53, 54, 55, 56, 57, 120], 0) := aw_7
  have HN := Lib.hid (fun W => NewNo_calls (-1) W (.inl (by omega)))
  have kc10 : ∀ W : World, (convert 23 23 (.slice (some ⟨W.heap.size, 0, none⟩) 10 10)).run Try.prog (W.alloc (.cells #[.int .u8 48, .int .u8 49, .int .u8 50, .int .u8 51, .int .u8 52, .int .u8 53, .int .u8 54, .int .u8 55, .int .u8 56, .int .u8 57] 5)) = .ok (.slice (some ⟨W.heap.size, 0, none⟩) 10 10) (W.alloc (.cells #[.int .u8 48, .int .u8 49, .int .u8 50, .int .u8 51, .int .u8 52, .int .u8 53, .int .u8 54, .int .u8 55, .int .u8 56, .int .u8 57] 5 (10, 11))) := fun W => Lib.run_convert_bytes_const (P := Try.prog) W 23 5 #[.int .u8 48, .int .u8 49, .int .u8 50, .int .u8 51, .int .u8 52, .int .u8 53, .int .u8 54, .int .u8 55, .int .u8 56, .int .u8 57] 10 10 Try.underlying23 Try.underlying5
  have kc1 : ∀ W : World, (convert 23 23 (.slice (some ⟨W.heap.size, 0, none⟩) 1 1)).run Try.prog (W.alloc (.cells #[.int .u8 120] 5)) = .ok (.slice (some ⟨W.heap.size, 0, none⟩) 1 1) (W.alloc (.cells #[.int .u8 120] 5 (1, 2))) := fun W => Lib.run_convert_bytes_const (P := Try.prog) W 23 5 #[.int .u8 120] 1 1 Try.underlying23 Try.underlying5
  go_enter Try.func26, Try.ntmps26
  go_wp2_with fail
  refine (New_calls 100 w (by omega) (by omega)).mono ?_
  rintro e w1 ⟨g, m, rfl, hD1, hg1, hm1, hb1⟩
  go_wp2_with fail
  refine (HN.out w1).mono ?_
  rintro e w1' ⟨rfl, hw1'⟩
  obtain rfl := hw1'.symm
  have hB1 : Below w1.heap.size w1 (w1.alloc (.cells #[.int .u8 48, .int .u8 49, .int .u8 50, .int .u8 51, .int .u8 52, .int .u8 53, .int .u8 54, .int .u8 55, .int .u8 56, .int .u8 57] 5 (10, 11))) := (Below.refl _ _).alloc (Nat.le_refl _) _
  have hA1 := Append_calls (hD1.below hB1) K0 ⟨#[97]⟩ (by decide) 0 (some ⟨w1.heap.size, 0, none⟩) [48, 49, 50, 51, 52, 53, 54, 55, 56, 57] 10 (Far.litD w1 0 [48, 49, 50, 51, 52, 53, 54, 55, 56, 57] (10, 11)) (Nat.zero_le _)
  rw [s1] at hA1
  have HA1 := Lib.hid hA1
  clear hA1
  go_wp2_with fail
  refine HA1.out.mono ?_
  rintro e w2 ⟨rfl, hD2, ht2⟩
  have hb2 := Tw.new (hb1.next hB1) ht2 hg1 hm1
  have hF2 := Free_calls hD2
  rw [show frD aw1 = 73 from aw_8] at hF2
  have HF2 := Lib.hid hF2
  have hC2 := Cut_calls hD2 1
  rw [aw_2] at hC2
  have HC2 := Lib.hid hC2
  clear hF2 hC2 kc10
  go_wp2_with ((go_at_call 16; refine HF2.out.mono ?_; rintro e w2' ⟨rfl, hw2'⟩; obtain rfl := hw2'.symm))
  refine HC2.out.mono ?_
  rintro e w3 ⟨rfl, hD3, ht3⟩
  have hb3 := Tw.new hb2 ht3 hg1 hm1
  have hA3 := Append_calls hD3 K2 ⟨#[97]⟩ (by decide) 0 none [] 0 Far.nil (Nat.zero_le _)
  rw [s3] at hA3
  have HA3 := Lib.hid hA3
  clear hA3
  go_wp2_with fail
  refine HA3.out.mono ?_
  rintro e w4 ⟨rfl, hD4, ht4⟩
  have hb4 := Tw.new hb3 ht4 hg1 hm1
  have hB4 : Below w4.heap.size w4 (w4.alloc (.cells #[.int .u8 120] 5 (1, 2))) := (Below.refl _ _).alloc (Nat.le_refl _) _
  have hA4 := Append_calls (hD4.below hB4) K3 ⟨#[97]⟩ (by decide) 0 (some ⟨w4.heap.size, 0, none⟩) [120] 1 (Far.litD w4 0 [120] (1, 2)) (Nat.zero_le _)
  rw [s4] at hA4
  have HA4 := Lib.hid hA4
  clear hA4
  go_wp2_with fail
  refine HA4.out.mono ?_
  rintro e w5 ⟨rfl, hD5, ht5⟩
  have hb5 := Tw.new (hb4.next hB4) ht5 hg1 hm1
  have HO5 := Lib.hid (Off_calls hD5)
  have hN5 := On_calls hD5
  rw [aw_5] at hN5
  have HN5 := Lib.hid hN5
  clear hN5
  go_wp2_with ((go_at_call 35; refine HO5.out.mono ?_; rintro e w5' ⟨rfl, hw5'⟩; obtain rfl := hw5'.symm))
  refine HN5.out.mono ?_
  rintro e w6 ⟨rfl, hD6, ht6⟩
  have hb6 := Tw.new hb5 ht6 hg1 hm1
  have hB6 : Below w6.heap.size w6 (w6.alloc (.cells #[.int .u8 120] 5 (1, 2))) := (Below.refl _ _).alloc (Nat.le_refl _) _
  have hA6 := Append_calls (hD6.below hB6) K5 ⟨#[97]⟩ (by decide) 0 (some ⟨w6.heap.size, 0, none⟩) [120] 1 (Far.litD w6 0 [120] (1, 2)) (Nat.zero_le _)
  rw [s6] at hA6
  have HA6 := Lib.hid hA6
  clear hA6
  go_wp2_with fail
  refine HA6.out.mono ?_
  rintro e w7 ⟨rfl, hD7, ht7⟩
  have hb7 := Tw.new (hb6.next hB6) ht7 hg1 hm1
  have hR7 := Read_calls hD7 K6.ord ⟨#[97]⟩ (fun b => K6.small)
  rw [s7] at hR7
  have HR7 := Lib.hid hR7
  clear hR7 kc1
  go_wp2_with fail
  refine HR7.out.mono ?_
  rintro e w8 ⟨z, A8, c8, he8, rfl, ho8, hb8⟩
  have hb08 := hb7.next hb8
  have hz : z = [48, 49, 50, 51, 52, 53, 54, 55, 56, 57, 120] := he8.out
  have hv := conv8f (c := c8) (Rd.of_own ho8)
  have hst : (⟨z.toArray⟩ : ByteArray) = ⟨#[48, 49, 50, 51, 52, 53, 54, 55, 56, 57, 120]⟩ := by rw [hz]
  rw [hst] at hv
  have HOp := Lib.hid (Ops_calls (hD7.below hb8))
  clear hst hz
  have hop : opsD aw6.done = 3 := by decide
  have hop2 : (opsD aw6.done == 3) = true := by decide
  have hdk : aw4.dark = true := rfl
  go_wp2_with ((go_at_call 21; refine HOp.out.mono ?_; rintro e w9 ⟨rfl, hw9⟩; obtain rfl := hw9.symm))
  go_ret
  exact ⟨rfl, hb08⟩
end Go.Proofs.Ytogjlfpoedeooaa
