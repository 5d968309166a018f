/- The walk of the law GraphAsks. Conditions: fewer than 2^38 texts are to be looked at; ids that memory holds. -/
import Derived.Test.YteeajmgiamdfdaaGAwake
import Derived.Test.YteeajmgiamdfdaaRBas
namespace Go.Proofs.Yteeajmgiamdfdaa
open Go.RowKit Go.Dol
set_option linter.unusedVariables false
theorem ids_same {p : ByteArray → Prop} {L M : List ByteArray} (h1 : Hid (Strict L)) (h2 : Hid (∀ x, x ∈ L ↔ p x)) (h3 : Hid (Strict M)) (h4 : Hid (∀ x, x ∈ M ↔ p x)) : L = M := h1.out.same h3.out fun x => (h2.out x).trans (h4.out x).symm
/-- The nodes, as the program's. -/
theorem mine_ok {A : Option Addr} {l : List NdA} {c : Nat} {w : World} (h : NdsOk w A l) (hl : l.length ≤ 100) :
    Calls Try.prog 12 #[.slice A l.length c] w fun e w' => ∃ (A' : Option Addr) (c' : Nat), e = .returned (.slice A' l.length c') ∧ NdsOk w' A' l ∧ Below w.heap.size w w' := by
  refine (mine_calls A l c w h.rd (by omega)).mono ?_
  rintro e w' ⟨ys, A', c', hy, rfl, ho, hb⟩
  obtain rfl : ys = l := hy.out
  have hs := hb.size
  have h2 := h.below hb
  exact ⟨A', c', rfl, ⟨Rd.of_own ho, h2.ps, h2.len, h2.ids, h2.par⟩, hb⟩
set_option maxRecDepth 100000 in
set_option maxHeartbeats 8000000 in
theorem graphAsks_walk (A : Option Addr) (l : List NdA) (c : Nat) (A2 : Option Addr) (fr : List ByteArray) (c2 : Nat) (a b : ByteArray) (w : World) (h : NdsOk w A l) (hroom : room (l.map NdA.f) [] [] ≤ 274877906944) (hr2 : Rd w w.heap.size 1 A2 fr.length (pc fr)) (hz : ∀ x ∈ fr, x.size ≤ maxLen) (hf : fr.length ≤ 274877906944) (ha : a.size ≤ maxLen) (hb : b.size ≤ maxLen) :
    Calls Try.prog 4 #[.slice A l.length c, .slice A2 fr.length c2, .string a, .string b] w fun e w' => e = .returned (.bool true) ∧ Below w.heap.size w w' := by
  have hll := h.len
  have HA := Lib.hid (awake_calls w)
  go_enter Try.func4, Try.ntmps4
  go_wp2_with fail
  refine HA.out.mono ?_
  rintro e w1 ⟨rfl, hb1⟩
  clear HA
  by_cases hl1 : 100 < l.length
  · have d1 : decide ((100 : Int) < (l.length : Int)) = true := decide_eq_true (by omega)
    have d1' : (100 : Int) < (l.length : Int) := by omega
    go_wp2_with fail
    go_ret
    exact ⟨rfl, hb1⟩
  · have d1 : decide ((100 : Int) < (l.length : Int)) = false := decide_eq_false (by omega)
    have d1' : ¬ (100 : Int) < (l.length : Int) := by omega
    by_cases hl2 : 100 < fr.length
    · have d2 : decide ((100 : Int) < (fr.length : Int)) = true := decide_eq_true (by omega)
      have d2' : (100 : Int) < (fr.length : Int) := by omega
      go_wp2_with fail
      go_ret
      exact ⟨rfl, hb1⟩
    · have d2 : decide ((100 : Int) < (fr.length : Int)) = false := decide_eq_false (by omega)
      have d2' : ¬ (100 : Int) < (fr.length : Int) := by omega
      have h1 := h.below hb1
      have HM := Lib.hid (mine_ok (c := c) h1 (by omega))
      have hs1 := hb1.size
      go_wp2_with fail
      refine HM.out.mono ?_
      rintro e w2 ⟨Ak, ck, rfl, hk2, hb2⟩
      have hb02 := hb1.next hb2
      -- what both sides answer, in whatever world comes of this one
      have HN : Hid (∀ W, Below w2.heap.size w2 W → NdsOk W Ak l ∧ NdsOk W A l ∧ Rd W W.heap.size 1 A2 fr.length (pc fr)) := fun W hW =>
        ⟨hk2.below hW, h.below (hb02.next hW), (hr2.belowW (hb02.next hW) (Nat.le_refl _)).more (hb02.next hW).size⟩
      have hrm : fr.length + room (l.map NdA.f) [] [] ≤ 549755813888 := by omega
      have hrm1 : 1 + room (l.map NdA.f) [] [] ≤ 549755813888 := by omega
      obtain ⟨k0, l0, r0⟩ := HN.out w2 (Below.refl _ _)
      have HC1 := Lib.hid (Closure_calls Ak l ck A2 fr c2 w2 k0 r0 hz hrm)
      clear hk2 hr2 hroom HM h1 hb1 hb2 k0 l0 r0 d1 d1' d2 d2' h hs1
      go_wp2_with fail
      refine HC1.out.mono ?_
      rintro e w3 ⟨L3, A3, c3, rfl, hs3, hm3, hl3, ho3, hb3⟩
      obtain ⟨k0, l0, r0⟩ := HN.out w3 hb3
      have HC2 := Lib.hid (refClosure_calls A l c A2 fr c2 w3 l0 r0 hrm)
      clear HC1 k0 l0 r0
      go_wp2_with fail
      refine HC2.out.mono ?_
      rintro e w4 ⟨L4, A4, c4, rfl, hs4, hm4, hl4, ho4, hb4⟩
      have hb24 := hb3.next hb4
      have HS := Lib.hid (SameTexts_calls A3 L3 c3 A4 L4 c4 w4 _ _ ((Rd.of_own ho3).belowW hb4 (Nat.le_refl _)) (Rd.of_own ho4) (by omega) (by omega))
      have HE := Lib.hid (ids_same hs3 hm3 hs4 hm4)
      clear HC2 hs3 hm3 hs4 hm4 ho3 ho4 hl3 hl4 hb3 hb4
      go_wp2_with fail
      refine HS.out.mono ?_
      rintro e w5 ⟨v, nq, rfl, hv, hw5⟩
      obtain rfl : v = true := hv.2 HE.out
      have hb5 : Below w2.heap.size w2 w5 := by rw [hw5]; exact below_drewN hb24 nq
      clear hv HE hw5 HS hb24
      obtain ⟨k0, l0, r0⟩ := HN.out w5 hb5
      have HR1 := Lib.hid (Reaches_calls Ak l ck a b w5 k0 ha hb hrm1)
      clear k0 l0 r0
      go_wp2_with fail
      refine HR1.out.mono ?_
      rintro e w6 ⟨v6, rfl, hv6, hb6⟩
      have hb26 := hb5.next hb6
      obtain ⟨k0, l0, r0⟩ := HN.out w6 hb26
      have HR2 := Lib.hid (refReaches_calls A l c a b w6 l0 hrm1)
      have HV6 := Lib.hid hv6
      clear k0 l0 r0 HR1 hb5 hb6 hv6
      go_wp2_with fail
      refine HR2.out.mono ?_
      rintro e w7 ⟨v7, rfl, hv7, hb7⟩
      have hb27 := hb26.next hb7
      obtain rfl : v7 = v6 := by
        have e : v7 = true ↔ v6 = true := hv7.trans HV6.out.symm
        cases v6 <;> cases v7 <;> simp_all
      obtain ⟨k0, l0, r0⟩ := HN.out w7 hb27
      have HB1 := Lib.hid (Bases_calls Ak l ck a b w7 k0 ha hb hrm1)
      have hvv : (v7 == v7) = true := by simp
      clear k0 l0 r0 HR2 HV6 hv7 hb26 hb7
      go_wp2_with fail
      refine HB1.out.mono ?_
      rintro e w8 ⟨L3, A3, c3, rfl, hs3, hm3, hl3, ho3, hb3⟩
      have hb28 := hb27.next hb3
      obtain ⟨k0, l0, r0⟩ := HN.out w8 hb28
      have HB2 := Lib.hid (refBases_calls A l c a b w8 l0 hrm1)
      clear k0 l0 r0 HB1
      go_wp2_with fail
      refine HB2.out.mono ?_
      rintro e w9 ⟨L4, A4, c4, rfl, hs4, hm4, hl4, ho4, hb4⟩
      have hb29 := hb28.next hb4
      have HS := Lib.hid (SameTexts_calls A3 L3 c3 A4 L4 c4 w9 _ _ ((Rd.of_own ho3).belowW hb4 (Nat.le_refl _)) (Rd.of_own ho4) (by omega) (by omega))
      have HE := Lib.hid (ids_same hs3 hm3 hs4 hm4)
      clear HB2 hs3 hm3 hs4 hm4 ho3 ho4 hl3 hl4 hb3 hb4 hb27 hb28
      go_wp2_with fail
      refine HS.out.mono ?_
      rintro e w10 ⟨v, nq, rfl, hv, hw10⟩
      obtain rfl : v = true := hv.2 HE.out
      have hb10 : Below w2.heap.size w2 w10 := by rw [hw10]; exact below_drewN hb29 nq
      clear hv HE hw10 HS hb29
      obtain ⟨k0, l0, r0⟩ := HN.out w10 hb10
      have HO1 := Lib.hid (Order_calls Ak l ck A2 fr c2 w10 k0 r0 hz hrm)
      clear k0 l0 r0
      go_wp2_with fail
      refine HO1.out.mono ?_
      rintro e w11 ⟨all3, L3, A3, c3, rfl, hs3, hm3, hz3, hl3, ho3, hb3⟩
      have hb211 := hb10.next hb3
      obtain ⟨k0, l0, r0⟩ := HN.out w11 hb211
      have HO2 := Lib.hid (refOrder_calls A l c A2 fr c2 w11 l0 r0 hrm)
      clear k0 l0 r0 HO1
      go_wp2_with fail
      refine HO2.out.mono ?_
      rintro e w12 ⟨all4, L4, A4, c4, rfl, hs4, hm4, hz4, hl4, ho4, hb4⟩
      have hb212 := hb211.next hb4
      have HS := Lib.hid (SameTexts_calls A3 L3 c3 A4 L4 c4 w12 _ _ ((Rd.of_own ho3).belowW hb4 (Nat.le_refl _)) (Rd.of_own ho4) (by omega) (by omega))
      have HE : Hid (L3 = L4) := by unfold Hid; rw [hz3.out, hz4.out, ids_same hs3 hm3 hs4 hm4]
      clear HO2 hs3 hm3 hs4 hm4 ho3 ho4 hl3 hl4 hb3 hb4 hb211 hb10 hz3 hz4
      go_wp2_with fail
      refine HS.out.mono ?_
      rintro e w13 ⟨v, nq, rfl, hv, hw13⟩
      obtain rfl : v = true := hv.2 HE.out
      have hb13 : Below w2.heap.size w2 w13 := by rw [hw13]; exact below_drewN hb212 nq
      clear hv HE hw13 HS hb212
      go_wp2_with fail
      go_ret
      exact ⟨rfl, hb02.next hb13⟩
end Go.Proofs.Yteeajmgiamdfdaa
