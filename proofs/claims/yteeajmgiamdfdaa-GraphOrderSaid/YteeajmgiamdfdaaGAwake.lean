/- The walk of the law's awake. Conditions: none. -/
import Derived.Test.YteeajmgiamdfdaaAwkLaw
import Derived.Test.YteeajmgiamdfdaaBas
import Derived.Test.YteeajmgiamdfdaaOrd
import Derived.Test.YteeajmgiamdfdaaReach
namespace Go.Proofs.Yteeajmgiamdfdaa
open Go.RowKit Go.Dol
set_option linter.unusedVariables false
/-- A row that was just made, as what reads. -/
theorem Rd.newT (w : World) (T : TypeId) (xs : List ByteArray) : Rd (w.alloc (.cells (pc xs).toArray T)) (w.heap.size + 1) 1 (some ⟨w.heap.size, 0, none⟩) xs.length (pc xs) := by
  have hB := Blk.new w T (pc xs)
  refine ⟨by simp [pc], fun _ => ⟨w.heap.size, 0, rfl, by omega, fun j u hu => ?_⟩⟩
  rw [Nat.zero_add]
  exact (hB.cell j).trans hu
def awkN (n : Nat) : List NdA := [⟨⟨#[97]⟩, [], none, 0⟩, ⟨⟨#[98]⟩, [⟨#[97]⟩], some ⟨n, 0, none⟩, 1⟩, ⟨⟨#[99]⟩, [⟨#[97]⟩], some ⟨n + 1, 0, none⟩, 1⟩, ⟨⟨#[100]⟩, [⟨#[98]⟩, ⟨#[99]⟩], some ⟨n + 1 + 1, 0, none⟩, 2⟩, ⟨⟨#[101]⟩, [⟨#[99]⟩, ⟨#[98]⟩], some ⟨n + 1 + 1 + 1, 0, none⟩, 2⟩]
theorem awkN_f (n : Nat) : (awkN n).map NdA.f = awkL := rfl
/-- The memory that the example is laid in. -/
def awkW (w : World) : World :=
  ((((w.alloc (.cells #[.string ⟨#[97]⟩] 9)).alloc (.cells #[.string ⟨#[97]⟩] 9)).alloc (.cells #[.string ⟨#[98]⟩, .string ⟨#[99]⟩] 9)).alloc (.cells #[.string ⟨#[99]⟩, .string ⟨#[98]⟩] 9)).alloc (.cells (nc (awkN w.heap.size)).toArray 28)
theorem awk_ok (w : World) : NdsOk (awkW w) (some ⟨w.heap.size + 1 + 1 + 1 + 1, 0, none⟩) (awkN w.heap.size) ∧ Below w.heap.size w (awkW w) ∧ (awkW w).heap.size = w.heap.size + 1 + 1 + 1 + 1 + 1 := by
  obtain ⟨w1, hw1⟩ : ∃ v, v = w.alloc (.cells (pc [⟨#[97]⟩]).toArray 9) := ⟨_, rfl⟩
  obtain ⟨w2, hw2⟩ : ∃ v, v = w1.alloc (.cells (pc [⟨#[97]⟩]).toArray 9) := ⟨_, rfl⟩
  obtain ⟨w3, hw3⟩ : ∃ v, v = w2.alloc (.cells (pc [⟨#[98]⟩, ⟨#[99]⟩]).toArray 9) := ⟨_, rfl⟩
  obtain ⟨w4, hw4⟩ : ∃ v, v = w3.alloc (.cells (pc [⟨#[99]⟩, ⟨#[98]⟩]).toArray 9) := ⟨_, rfl⟩
  obtain ⟨w5, hw5⟩ : ∃ v, v = w4.alloc (.cells (nc (awkN w.heap.size)).toArray 28) := ⟨_, rfl⟩
  have e : awkW w = w5 := by rw [hw5, hw4, hw3, hw2, hw1]; rfl
  rw [e]
  have al : ∀ (v v' : World) (o : Obj), v' = v.alloc o → Below v.heap.size v v' ∧ v'.heap.size = v.heap.size + 1 := fun v v' o h => by
    rw [h]
    exact ⟨(Below.refl _ _).alloc (Nat.le_refl _) _, World.size_alloc _ _⟩
  obtain ⟨b1, s1⟩ := al _ _ _ hw1
  obtain ⟨b2, s2⟩ := al _ _ _ hw2
  obtain ⟨b3, s3⟩ := al _ _ _ hw3
  obtain ⟨b4, s4⟩ := al _ _ _ hw4
  obtain ⟨b5, s5⟩ := al _ _ _ hw5
  have r1 : Rd w1 w1.heap.size 1 (some ⟨w.heap.size, 0, none⟩) 1 (pc [⟨#[97]⟩]) := by rw [hw1, World.size_alloc]; exact Rd.newT w 9 [⟨#[97]⟩]
  have r2 : Rd w2 w2.heap.size 1 (some ⟨w1.heap.size, 0, none⟩) 1 (pc [⟨#[97]⟩]) := by rw [hw2, World.size_alloc]; exact Rd.newT w1 9 [⟨#[97]⟩]
  have r3 : Rd w3 w3.heap.size 1 (some ⟨w2.heap.size, 0, none⟩) 2 (pc [⟨#[98]⟩, ⟨#[99]⟩]) := by rw [hw3, World.size_alloc]; exact Rd.newT w2 9 [⟨#[98]⟩, ⟨#[99]⟩]
  have r4 : Rd w4 w4.heap.size 1 (some ⟨w3.heap.size, 0, none⟩) 2 (pc [⟨#[99]⟩, ⟨#[98]⟩]) := by rw [hw4, World.size_alloc]; exact Rd.newT w3 9 [⟨#[99]⟩, ⟨#[98]⟩]
  have r1' := (r1.belowW ((b2.next b3).next (b4.next b5)) (Nat.le_refl _)).more (B' := w5.heap.size) (by omega)
  have r2' := (r2.belowW (b3.next (b4.next b5)) (Nat.le_refl _)).more (B' := w5.heap.size) (by omega)
  have r3' := (r3.belowW (b4.next b5) (Nat.le_refl _)).more (B' := w5.heap.size) (by omega)
  have r4' := (r4.belowW b5 (Nat.le_refl _)).more (B' := w5.heap.size) (by omega)
  have hB5 : Blk w5 w4.heap.size 28 (nc (awkN w.heap.size)) := by rw [hw5]; exact Blk.new w4 28 _
  have z4 : w4.heap.size = w.heap.size + 1 + 1 + 1 + 1 := by rw [s4, s3, s2, s1]
  refine ⟨⟨⟨rfl, fun _ => ⟨w4.heap.size, 0, by rw [z4], by omega, fun j u hu => by rw [Nat.zero_add]; exact (hB5.cell j).trans hu⟩⟩, ?_, (by show 5 ≤ _; omega), ?_, ?_⟩, (b1.next b2).next (b3.next (b4.next b5)), by rw [s5, z4]⟩
  · intro x hx
    rcases List.mem_cons.1 hx with rfl | hx
    · exact ⟨Rd.nil, Nat.le_refl _, by show 0 ≤ maxLen; unfold maxLen; omega⟩
    rcases List.mem_cons.1 hx with rfl | hx
    · exact ⟨r1', Nat.le_refl _, by show 1 ≤ maxLen; unfold maxLen; omega⟩
    rcases List.mem_cons.1 hx with rfl | hx
    · exact ⟨by rw [s1] at r2'; exact r2', Nat.le_refl _, by show 1 ≤ maxLen; unfold maxLen; omega⟩
    rcases List.mem_cons.1 hx with rfl | hx
    · exact ⟨by rw [s2, s1] at r3'; exact r3', Nat.le_refl _, by show 2 ≤ maxLen; unfold maxLen; omega⟩
    · obtain rfl := List.mem_singleton.1 hx
      exact ⟨by rw [s3, s2, s1] at r4'; exact r4', Nat.le_refl _, by show 2 ≤ maxLen; unfold maxLen; omega⟩
  · intro x hx
    have : x.n.size = 1 := by
      simp only [awkN, List.mem_cons, List.not_mem_nil, or_false] at hx
      rcases hx with rfl | rfl | rfl | rfl | rfl <;> rfl
    rw [this]
    unfold maxLen
    omega
  · intro x hx y hy
    have : y.size = 1 := by
      simp only [awkN, List.mem_cons, List.not_mem_nil, or_false] at hx
      rcases hx with rfl | rfl | rfl | rfl | rfl <;> simp only [List.mem_cons, List.not_mem_nil, or_false] at hy
      · rw [hy]; rfl
      · rw [hy]; rfl
      · rcases hy with rfl | rfl <;> rfl
      · rcases hy with rfl | rfl <;> rfl
    rw [this]
    unfold maxLen
    omega
theorem awk_room (n : Nat) : room ((awkN n).map NdA.f) [] [] = 11 := by rw [awkN_f]; decide +kernel
set_option maxRecDepth 100000 in
set_option maxHeartbeats 4000000 in
theorem awake_calls (w : World) : Calls Try.prog 8 #[] w fun e w' => e = .returned (.bool true) ∧ Below w.heap.size w w' := by
  obtain ⟨hok, hb0, hz⟩ := awk_ok w
  have one : (⟨#[100]⟩ : ByteArray).size ≤ maxLen := by show 1 ≤ maxLen; unfold maxLen; omega
  have one2 : (⟨#[101]⟩ : ByteArray).size ≤ maxLen := by show 1 ≤ maxLen; unfold maxLen; omega
  have one3 : (⟨#[97]⟩ : ByteArray).size ≤ maxLen := by show 1 ≤ maxLen; unfold maxLen; omega
  have hrm := awk_room w.heap.size
  have HB := Lib.hid (Bases_calls (some ⟨w.heap.size + 1 + 1 + 1 + 1, 0, none⟩) (awkN w.heap.size) 5 ⟨#[100]⟩ ⟨#[101]⟩ (awkW w) hok one one2 (by rw [hrm]; omega))
  have HO : Hid (∀ W, Below (awkW w).heap.size (awkW w) W → Calls Try.prog 18 #[.slice (some ⟨w.heap.size + 1 + 1 + 1 + 1, 0, none⟩) 5 5, .slice (some ⟨W.heap.size, 0, none⟩) 1 1] (W.alloc (.cells #[.string ⟨#[100]⟩] 9)) (RetOrd awkL [tD] (W.alloc (.cells #[.string ⟨#[100]⟩] 9)))) := fun W hW => by
    have hbx : Below W.heap.size W (W.alloc (.cells #[.string ⟨#[100]⟩] 9)) := (Below.refl _ _).alloc (Nat.le_refl _) _
    exact Order_calls (some ⟨w.heap.size + 1 + 1 + 1 + 1, 0, none⟩) (awkN w.heap.size) 5 (some ⟨W.heap.size, 0, none⟩) [⟨#[100]⟩] 1 _ ((hok.below hW).below hbx) (by rw [World.size_alloc]; exact Rd.newT W 9 [⟨#[100]⟩]) (fun x hx => by rw [List.mem_singleton.1 hx]; exact one) (by rw [hrm]; decide)
  have HR1 : Hid (∀ W, Below (awkW w).heap.size (awkW w) W → Calls Try.prog 11 #[.slice (some ⟨w.heap.size + 1 + 1 + 1 + 1, 0, none⟩) 5 5, .string ⟨#[100]⟩, .string ⟨#[97]⟩] W fun e w' => e = .returned (.bool true) ∧ Below W.heap.size W w') := fun W hW => by
    refine (Reaches_calls (some ⟨w.heap.size + 1 + 1 + 1 + 1, 0, none⟩) (awkN w.heap.size) 5 ⟨#[100]⟩ ⟨#[97]⟩ W (hok.below hW) one one3 (by rw [hrm]; decide)).mono ?_
    rintro e w' ⟨v, rfl, hv, hb⟩
    have : v = true := hv.2 awk_da
    rw [this]
    exact ⟨rfl, hb⟩
  have HR2 : Hid (∀ W, Below (awkW w).heap.size (awkW w) W → Calls Try.prog 11 #[.slice (some ⟨w.heap.size + 1 + 1 + 1 + 1, 0, none⟩) 5 5, .string ⟨#[97]⟩, .string ⟨#[100]⟩] W fun e w' => e = .returned (.bool false) ∧ Below W.heap.size W w') := fun W hW => by
    refine (Reaches_calls (some ⟨w.heap.size + 1 + 1 + 1 + 1, 0, none⟩) (awkN w.heap.size) 5 ⟨#[97]⟩ ⟨#[100]⟩ W (hok.below hW) one3 one (by rw [hrm]; decide)).mono ?_
    rintro e w' ⟨v, rfl, hv, hb⟩
    have : v = false := by
      cases v with
      | false => rfl
      | true => exact absurd (hv.1 rfl) awk_ad
    rw [this]
    exact ⟨rfl, hb⟩
  clear hok one one2 one3 hrm
  go_enter Try.func8, Try.ntmps8
  go_wp2_with fail
  refine HB.out.mono ?_
  rintro e w2 ⟨L, A2, c2, rfl, hs2, hm2, hl2, ho2, hb2⟩
  have hL : L = [⟨#[98]⟩, ⟨#[99]⟩] := awk_bases hs2.out hm2.out
  have hbx : Below w2.heap.size w2 (w2.alloc (.cells #[.string ⟨#[98]⟩, .string ⟨#[99]⟩] 9)) := (Below.refl _ _).alloc (Nat.le_refl _) _
  have HS := Lib.hid (SameTexts_calls A2 L c2 (some ⟨w2.heap.size, 0, none⟩) [⟨#[98]⟩, ⟨#[99]⟩] 2 (w2.alloc (.cells #[.string ⟨#[98]⟩, .string ⟨#[99]⟩] 9)) _ _ ((Rd.of_own ho2).belowW hbx (Nat.le_refl _)) (Rd.newT w2 9 [⟨#[98]⟩, ⟨#[99]⟩]) (by omega) (by show 2 ≤ _; omega))
  have HL := Lib.hid hL
  have hb2x := hb2.next hbx
  clear hL ho2 hs2 hm2 HB hb2
  go_wp2_with fail
  refine HS.out.mono ?_
  rintro e w3 ⟨v, nq, rfl, hv, rfl⟩
  obtain rfl : v = true := hv.2 HL.out
  have hb3 : Below (awkW w).heap.size (awkW w) ((w2.alloc (.cells #[.string ⟨#[98]⟩, .string ⟨#[99]⟩] 9)).drewN nq) := below_drewN hb2x nq
  have HO3 := Lib.hid (HO.out _ hb3)
  obtain ⟨W3, hW3⟩ : ∃ W, W = (w2.alloc (.cells #[.string ⟨#[98]⟩, .string ⟨#[99]⟩] 9)).drewN nq := ⟨_, rfl⟩
  rw [← hW3] at hb3 HO3 ⊢
  clear hv HL HS hb2x hbx hl2 hW3
  go_wp2_with fail
  refine HO3.out.mono ?_
  rintro e w4 ⟨all, zs, A4, c4, rfl, hst, hmem, hzs, hl4, ho4, hb4⟩
  have hbd : Below W3.heap.size W3 (W3.alloc (.cells #[.string ⟨#[100]⟩] 9)) := (Below.refl _ _).alloc (Nat.le_refl _) _
  have hZ : zs = [⟨#[97]⟩, ⟨#[98]⟩, ⟨#[99]⟩, ⟨#[100]⟩] := hzs.out.trans (awk_order hst.out hmem.out)
  have hbx : Below w4.heap.size w4 (w4.alloc (.cells #[.string ⟨#[97]⟩, .string ⟨#[98]⟩, .string ⟨#[99]⟩, .string ⟨#[100]⟩] 9)) := (Below.refl _ _).alloc (Nat.le_refl _) _
  have HS := Lib.hid (SameTexts_calls A4 zs c4 (some ⟨w4.heap.size, 0, none⟩) [⟨#[97]⟩, ⟨#[98]⟩, ⟨#[99]⟩, ⟨#[100]⟩] 4 (w4.alloc (.cells #[.string ⟨#[97]⟩, .string ⟨#[98]⟩, .string ⟨#[99]⟩, .string ⟨#[100]⟩] 9)) _ _ ((Rd.of_own ho4).belowW hbx (Nat.le_refl _)) (Rd.newT w4 9 [⟨#[97]⟩, ⟨#[98]⟩, ⟨#[99]⟩, ⟨#[100]⟩]) (by omega) (by show 4 ≤ _; omega))
  have HZ := Lib.hid hZ
  have hb34 := hb3.next ((hbd.next hb4).next hbx)
  clear hZ ho4 hst hmem hzs HO3 hb4 hbd hb3 HO
  go_wp2_with fail
  refine HS.out.mono ?_
  rintro e w5 ⟨v, nq, rfl, hv, rfl⟩
  obtain rfl : v = true := hv.2 HZ.out
  have hb5 : Below (awkW w).heap.size (awkW w) ((w4.alloc (.cells #[.string ⟨#[97]⟩, .string ⟨#[98]⟩, .string ⟨#[99]⟩, .string ⟨#[100]⟩] 9)).drewN nq) := below_drewN hb34 nq
  obtain ⟨W5, hW5⟩ : ∃ W, W = (w4.alloc (.cells #[.string ⟨#[97]⟩, .string ⟨#[98]⟩, .string ⟨#[99]⟩, .string ⟨#[100]⟩] 9)).drewN nq := ⟨_, rfl⟩
  rw [← hW5] at hb5 ⊢
  have HR3 := Lib.hid (HR1.out _ hb5)
  clear hv HZ HS hb34 hbx hl4 hW5 HR1
  go_wp2_with fail
  refine HR3.out.mono ?_
  rintro e w6 ⟨rfl, hb6⟩
  have hb56 := hb5.next hb6
  have HR4 := Lib.hid (HR2.out _ hb56)
  clear HR3 HR2
  go_wp2_with fail
  refine HR4.out.mono ?_
  rintro e w7 ⟨rfl, hb7⟩
  go_wp2_with fail
  go_ret
  exact ⟨rfl, hb0.next (hb56.next hb7)⟩
end Go.Proofs.Yteeajmgiamdfdaa
