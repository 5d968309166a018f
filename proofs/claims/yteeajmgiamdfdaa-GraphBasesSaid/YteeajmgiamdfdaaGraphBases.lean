/- The walk of the law GraphBases. Conditions: fewer than 2^47 rows. -/
import Derived.Test.YteeajmgiamdfdaaFwd
import Derived.Test.YteeajmgiamdfdaaGraphReaches
namespace Go.Proofs.Yteeajmgiamdfdaa
open Go.RowKit Go.Dol
set_option linter.unusedVariables false
/-- Does one of the first k lead there? -/
def SomRel (L : List Nd) (bs : List ByteArray) (z : ByteArray) (v0 : World) (s i : Value) (wr : World) : Prop :=
  ∃ (k : Nat) (u : Bool), s = .bool u ∧ i = .int .i64 k ∧ k ≤ bs.length ∧ Hid (u = true ↔ ∃ j, j < k ∧ ∃ y, bs[j]? = some y ∧ Rch L [y] z) ∧ Below v0.heap.size v0 wr
set_option maxRecDepth 100000 in
set_option maxHeartbeats 16000000 in
theorem graphBases_walk (A : Option Addr) (l0 : List RowA) (c : Nat) (ia ib : Int) (w : World) (hr : Rd w w.heap.size 1 A l0.length (uc l0)) (hw : Rws w w.heap.size l0) (hl0 : l0.length ≤ 140737488355328) :
    Calls Try.prog 3 #[.slice A l0.length c, .int .i64 ia, .int .i64 ib] w fun e w' => e = .returned (.bool true) ∧ Below w.heap.size w w' := by
  have HA := Lib.hid (awake_calls w)
  go_enter Try.func3, Try.ntmps3
  go_wp2_with fail
  refine HA.out.mono ?_
  rintro e w1 ⟨rfl, hb1⟩
  have HFw := Lib.hid (forward_calls A l0 c w1 ((hr.belowW hb1 (Nat.le_refl _)).more hb1.size) (fun x hx => ⟨((hw x hx).1.belowW hb1 (Nat.le_refl _)).more hb1.size, (hw x hx).2⟩) hl0)
  clear HA hr hw hl0
  go_wp2_with fail
  refine HFw.out.mono ?_
  rintro e w2 ⟨l, Ak, ck, rfl, hF, hok, hb2⟩
  have hb02 := hb1.next hb2
  have hll : l.length ≤ 60 := by have := hF.out.len; rw [List.length_map] at this; exact this
  have h300 : room (l.map NdA.f) [] [] ≤ 300 := fwd_room hF.out
  have hrm : 1 + room (l.map NdA.f) [] [] ≤ 549755813888 := by omega
  clear h300
  clear HFw hb1 hb2
  rcases Nat.eq_zero_or_pos l.length with h0 | h0
  · have hz : ((l.length : Int) == 0) = true := by rw [h0]; rfl
    go_wp2_with fail
    go_ret
    exact ⟨rfl, hb02⟩
  · have hz : ((l.length : Int) == 0) = false := beq_eq_false_iff_ne.2 (by omega)
    have hzn : ¬ (l.length : Int) = 0 := by omega
    have hzn' : ¬ l.length = 0 := by omega
    have hzi : (1 : Int) ≤ (l.length : Int) := by omega
    obtain ⟨q1, hq1, hq1l⟩ := mask_nat ia
    obtain ⟨q2, hq2, hq2l⟩ := mask_nat ib
    obtain ⟨m1, hm1⟩ : ∃ m : Nat, (q1 : Int) % (l.length : Int) = (m : Int) := ⟨q1 % l.length, by omega⟩
    obtain ⟨m2, hm2⟩ : ∃ m : Nat, (q2 : Int) % (l.length : Int) = (m : Int) := ⟨q2 % l.length, by omega⟩
    have hm1' : (q1 : Int).tmod (l.length : Int) = (m1 : Int) := by rw [Int.tmod_eq_emod_of_nonneg (by omega)]; exact hm1
    have hm2' : (q2 : Int).tmod (l.length : Int) = (m2 : Int) := by rw [Int.tmod_eq_emod_of_nonneg (by omega)]; exact hm2
    have hm1l : m1 < l.length := by have : (q1 : Int) % (l.length : Int) < (l.length : Int) := Int.emod_lt_of_pos _ (by omega); omega
    have hm2l : m2 < l.length := by have : (q2 : Int) % (l.length : Int) < (l.length : Int) := Int.emod_lt_of_pos _ (by omega); omega
    have i1 : (0 : Int) ≤ (m1 : Int) := by omega
    have i2 : (0 : Int) ≤ (m2 : Int) := by omega
    have i3 : (m1 : Int) < (l.length : Int) := by omega
    have i4 : (m2 : Int) < (l.length : Int) := by omega
    have i5 : (0 : Int) ≤ (q1 : Int) := by omega
    have i6 : (0 : Int) ≤ (q2 : Int) := by omega
    obtain ⟨xa, hxa⟩ : ∃ x, l[m1]? = some x := ⟨l[m1], List.getElem?_eq_getElem hm1l⟩
    obtain ⟨xb, hxb⟩ : ∃ x, l[m2]? = some x := ⟨l[m2], List.getElem?_eq_getElem hm2l⟩
    obtain ⟨nb, no, rfl, hnb, hncell⟩ := hok.rd.at_ h0
    have ca : w2.cell? ⟨nb, no + m1 * 2, none⟩ = some (.string xa.n) := hncell _ _ (nc_get hxa).1
    have cb : w2.cell? ⟨nb, no + m2 * 2, none⟩ = some (.string xb.n) := hncell _ _ (nc_get hxb).1
    have hsa := hok.ids xa (List.mem_of_getElem? hxa)
    have hsb := hok.ids xb (List.mem_of_getElem? hxb)
    have hka := par_some (List.mem_of_getElem? hxa)
    have hkb := par_some (List.mem_of_getElem? hxb)
    have HB := Lib.hid (Bases_calls (some ⟨nb, no, none⟩) l ck xa.n xb.n w2 hok hsa hsb hrm)
    obtain ⟨a, hae⟩ : ∃ a, a = xa.n := ⟨_, rfl⟩
    obtain ⟨b, hbe⟩ : ∃ b, b = xb.n := ⟨_, rfl⟩
    rw [← hae] at ca hsa hka HB
    rw [← hbe] at cb hsb hkb HB
    have HNC : Hid (∀ j u, (nc l)[j]? = some u → w2.cell? ⟨nb, no + j, none⟩ = some u) := hncell
    clear hxa hxb hncell hae hbe
    go_wp2_with fail
    clear hq1 hq2 hm1 hm2 hm1' hm2' i1 i2 i3 i4 i5 i6 ca cb hq1l hq2l hm1l hm2l
    refine HB.out.mono ?_
    rintro e w3 ⟨L, AL, cL, rfl, hst, hmem, hlL, hoL, hb3⟩
    have hrL := Rd.of_own hoL
    have hok3 := hok.below hb3
    have hb03 := hb02.next hb3
    have HR : Hid (∀ W x y, Below w3.heap.size w3 W → x.size ≤ maxLen → y.size ≤ maxLen → Calls Try.prog 11 #[.slice (some ⟨nb, no, none⟩) l.length ck, .string x, .string y] W fun e w' => ∃ v : Bool, e = .returned (.bool v) ∧ (v = true ↔ Rch (l.map NdA.f) [x] y) ∧ Below W.heap.size W w') := fun W x y hW hx hy =>
      Reaches_calls (some ⟨nb, no, none⟩) l ck x y W (hok3.below hW) hx hy hrm
    have HRT : Hid (∀ W x y, Below w3.heap.size w3 W → x.size ≤ maxLen → y.size ≤ maxLen → Rch (l.map NdA.f) [x] y → Calls Try.prog 11 #[.slice (some ⟨nb, no, none⟩) l.length ck, .string x, .string y] W fun e w' => e = .returned (.bool true) ∧ Below W.heap.size W w') := fun W x y hW hx hy hxy => by
      refine (HR.out W x y hW hx hy).mono ?_
      rintro e w' ⟨v, rfl, hv, hb⟩
      have : v = true := hv.2 hxy
      rw [this]
      exact ⟨rfl, hb⟩
    have HRF : Hid (∀ W x y, Below w3.heap.size w3 W → x.size ≤ maxLen → y.size ≤ maxLen → ¬ Rch (l.map NdA.f) [x] y → Calls Try.prog 11 #[.slice (some ⟨nb, no, none⟩) l.length ck, .string x, .string y] W fun e w' => e = .returned (.bool false) ∧ Below W.heap.size W w') := fun W x y hW hx hy hxy => by
      refine (HR.out W x y hW hx hy).mono ?_
      rintro e w' ⟨v, rfl, hv, hb⟩
      have : v = false := by cases v with | false => rfl | true => exact absurd (hv.1 rfl) hxy
      rw [this]
      exact ⟨rfl, hb⟩
    have HSZ : Hid (∀ x ∈ L, x.size ≤ maxLen) := fun x hx => hok.known ((hmem.out x).1 hx).1.1.known
    have hncell3 : Hid (∀ j u, (nc l)[j]? = some u → ∀ W, Below w3.heap.size w3 W → W.cell? ⟨nb, no + j, none⟩ = some u) := fun j u hu W hW => ((hb3.next hW).cell (p := ⟨nb, no + j, none⟩) hnb).trans (HNC.out j u hu)
    have HRL : Hid (∀ W, Below w3.heap.size w3 W → Rd W w3.heap.size 1 AL L.length (pc L)) := fun W hW => hrL.belowW hW (Nat.le_refl _)
    have hIDS := Lib.hid hok.ids
    clear HB HNC hok hok3 hoL hrL hb3 hb02 hnb hz hzn hzn'
    go_wp2_with fail
    go_loopw [12] (fun i wr => GreRel L.length w3 i wr) (fun i _ => L.length - (intOf i).toNat)
    case atStart => exact ⟨0, rfl, Nat.zero_le _, Below.refl _ _⟩
    case round =>
      obtain ⟨i, rfl, hi, hbr⟩ := hrel
      have f1 : IntKind.i64.wrap ((i : Int) + 1) = (i : Int) + 1 := IntWalk.i64_in _ (by omega)
      by_cases hlt : i < L.length
      · have hd : decide ((i : Int) < (L.length : Int)) = true := decide_eq_true (by omega)
        have hd' : (i : Int) < (L.length : Int) := by omega
        have hi0 : (0 : Int) ≤ (i : Int) := by omega
        obtain ⟨x, hx⟩ : ∃ x, L[i]? = some x := ⟨L[i], List.getElem?_eq_getElem hlt⟩
        have hxm := List.mem_of_getElem? hx
        obtain ⟨bl, ol, hAL, hbl, hcl⟩ := (HRL.out w3 (Below.refl _ _)).at_ (by omega)
        have HCL : Hid (∀ j y, L[j]? = some y → ∀ W, Below w3.heap.size w3 W → W.cell? ⟨bl, ol + j, none⟩ = some (.string y)) := fun j y hy W hW => (hW.cell (p := ⟨bl, ol + j, none⟩) hbl).trans (hcl j _ (by simp [pc, hy]))
        have cx := HCL.out i x hx wr hbr
        have hBx := (hmem.out x).1 hxm
        have hR1 := Lib.hid (HRT.out wr a x hbr hsa (HSZ.out x hxm) hBx.1.1)
        have HR2 := Lib.hid (fun W hW => HRT.out W b x hW hsb (HSZ.out x hxm) hBx.1.2)
        have HX := Lib.hid hx
        obtain ⟨B7, hB7⟩ : ∃ B : Option Addr, B = AL := ⟨_, rfl⟩
        rw [← hB7] at hAL
        subst hAL
        subst hB7
        clear hx hcl hBx
        go_wp2_with fail
        refine hR1.out.mono ?_
        rintro e w4 ⟨rfl, hb4⟩
        have hbr4 := hbr.next hb4
        have cx4 := HCL.out i x HX.out w4 hbr4
        have hR2 := Lib.hid (HR2.out w4 hbr4)
        clear hR1 hbr hb4 cx
        go_wp2_with fail
        refine hR2.out.mono ?_
        rintro e w5 ⟨rfl, hb5⟩
        have hbr5 := hbr4.next hb5
        clear hR2 hbr4 hb5 cx4 HR2
        go_wp2_with fail
        go_loopw [13] (fun i wr => GreRel L.length w3 i wr) (fun i _ => L.length - (intOf i).toNat)
        case atStart => exact ⟨0, rfl, Nat.zero_le _, hbr5⟩
        case round =>
          clear hbr5
          obtain ⟨j, rfl, hj, hbr⟩ := hrel
          have f2 : IntKind.i64.wrap ((j : Int) + 1) = (j : Int) + 1 := IntWalk.i64_in _ (by omega)
          by_cases hltj : j < L.length
          · have hdj : decide ((j : Int) < (L.length : Int)) = true := decide_eq_true (by omega)
            have hdj' : (j : Int) < (L.length : Int) := by omega
            have hj0 : (0 : Int) ≤ (j : Int) := by omega
            obtain ⟨y, hy⟩ : ∃ y, L[j]? = some y := ⟨L[j], List.getElem?_eq_getElem hltj⟩
            have hym := List.mem_of_getElem? hy
            have HSS : Hid (∀ W, Below w3.heap.size w3 W → W.cell? ⟨bl, ol + i, none⟩ = some (.string x) ∧ W.cell? ⟨bl, ol + j, none⟩ = some (.string y)) := fun W hW => ⟨HCL.out i x HX.out W hW, HCL.out j y hy W hW⟩
            have hbd := hbr.drew
            have HY := Lib.hid hy
            clear hy
            go_wp2_with fail
            by_cases hij : i = j
            · have dij : ((i : Int) != (j : Int)) = false := by simp [hij]
              clear hij
              refine wp_region_held_drew (S := fun W => W.cell? ⟨bl, ol + i, none⟩ = some (.string x) ∧ W.cell? ⟨bl, ol + j, none⟩ = some (.string y)) (by kernel_rfl) (HSS.out _ hbd) (fun hHeld => ?_)
              refine wpAnyH_take (i := 0) (oi := _) (v := .int .i64 (i : Int)) rfl (by kernel_rfl) (by kernel_rfl) (by kernel_rfl) (fun _ _ _ h => h) (Or.inl ⟨by rfl, fun w9 hS => ?_⟩) hHeld ?_
              · obtain ⟨s0, s1⟩ := hS
                go_simp
              try simp only [Act.put, List.setIfInBounds_toArray, List.set_cons_zero, List.set_cons_succ, List.getElem_toArray, List.getElem_cons_zero]
              refine wpAnyH_take (i := 1) (oi := _) (v := .int .i64 (j : Int)) rfl (by kernel_rfl) (by kernel_rfl) (by kernel_rfl) (fun _ _ _ h => h) (Or.inl ⟨by rfl, fun w9 hS => ?_⟩) hHeld ?_
              · obtain ⟨s0, s1⟩ := hS
                go_simp
              try simp only [Act.put, List.setIfInBounds_toArray, List.set_cons_zero, List.set_cons_succ, List.getElem_toArray, List.getElem_cons_succ, List.getElem_cons_zero]
              refine wpAnyH_take (i := 2) (oi := _) (v := .bool false) rfl (by kernel_rfl) (by kernel_rfl) (by kernel_rfl) (fun _ _ _ h => h) (Or.inl ⟨by rfl, fun w9 hS => ?_⟩) hHeld ?_
              · obtain ⟨s0, s1⟩ := hS
                go_simp
              try simp only [Act.put, List.setIfInBounds_toArray, List.set_cons_zero, List.set_cons_succ, List.getElem_toArray, List.getElem_cons_succ, List.getElem_cons_zero]
              refine wpAnyH_take (i := 3) (oi := _) (v := .bool false) rfl (by kernel_rfl) (by kernel_rfl) (by kernel_rfl) (fun _ _ _ h => h) (Or.inl ⟨by rfl, fun w9 hS => ?_⟩) hHeld ?_
              · obtain ⟨s0, s1⟩ := hS
                go_simp
              try simp only [Act.put, List.setIfInBounds_toArray, List.set_cons_zero, List.set_cons_succ, List.getElem_toArray, List.getElem_cons_succ, List.getElem_cons_zero]
              refine wpAnyH_take (i := 4) (oi := _) (v := undef) rfl (by kernel_rfl) (by kernel_rfl) (by kernel_rfl) (fun _ _ _ h => h) (Or.inr ⟨by rfl, rfl⟩) hHeld ?_
              try simp only [Act.put, List.setIfInBounds_toArray, List.set_cons_zero, List.set_cons_succ, List.getElem_toArray, List.getElem_cons_succ, List.getElem_cons_zero]
              refine wpAnyH_take (i := 5) (oi := _) (v := undef) rfl (by kernel_rfl) (by kernel_rfl) (by kernel_rfl) (fun _ _ _ h => h) (Or.inr ⟨by rfl, rfl⟩) hHeld ?_
              try simp only [Act.put, List.setIfInBounds_toArray, List.set_cons_zero, List.set_cons_succ, List.getElem_toArray, List.getElem_cons_succ, List.getElem_cons_zero]
              refine wpAnyH_take (i := 6) (oi := _) (v := undef) rfl (by kernel_rfl) (by kernel_rfl) (by kernel_rfl) (fun _ _ _ h => h) (Or.inr ⟨by rfl, rfl⟩) hHeld ?_
              try simp only [Act.put, List.setIfInBounds_toArray, List.set_cons_zero, List.set_cons_succ, List.getElem_toArray, List.getElem_cons_succ, List.getElem_cons_zero]
              refine wpAnyH_take (i := 7) (oi := _) (v := undef) rfl (by kernel_rfl) (by kernel_rfl) (by kernel_rfl) (fun _ _ _ h => h) (Or.inr ⟨by rfl, rfl⟩) hHeld ?_
              try simp only [Act.put, List.setIfInBounds_toArray, List.set_cons_zero, List.set_cons_succ, List.getElem_toArray, List.getElem_cons_succ, List.getElem_cons_zero]
              refine wpAnyH_take (i := 8) (oi := _) (v := undef) rfl (by kernel_rfl) (by kernel_rfl) (by kernel_rfl) (fun _ _ _ h => h) (Or.inr ⟨by rfl, rfl⟩) hHeld ?_
              try simp only [Act.put, List.setIfInBounds_toArray, List.set_cons_zero, List.set_cons_succ, List.getElem_toArray, List.getElem_cons_succ, List.getElem_cons_zero]
              refine wpAnyH_take (i := 9) (oi := _) (v := undef) rfl (by kernel_rfl) (by kernel_rfl) (by kernel_rfl) (fun _ _ _ h => h) (Or.inr ⟨by rfl, rfl⟩) hHeld ?_
              try simp only [Act.put, List.setIfInBounds_toArray, List.set_cons_zero, List.set_cons_succ, List.getElem_toArray, List.getElem_cons_succ, List.getElem_cons_zero]
              refine wpAnyH_take (i := 10) (oi := _) (v := undef) rfl (by kernel_rfl) (by kernel_rfl) (by kernel_rfl) (fun _ _ _ h => h) (Or.inr ⟨by rfl, rfl⟩) hHeld ?_
              try simp only [Act.put, List.setIfInBounds_toArray, List.set_cons_zero, List.set_cons_succ, List.getElem_toArray, List.getElem_cons_succ, List.getElem_cons_zero]
              refine wpAnyH_take (i := 11) (oi := _) (v := undef) rfl (by kernel_rfl) (by kernel_rfl) (by kernel_rfl) (fun _ _ _ h => h) (Or.inr ⟨by rfl, rfl⟩) hHeld ?_
              try simp only [Act.put, List.setIfInBounds_toArray, List.set_cons_zero, List.set_cons_succ, List.getElem_toArray, List.getElem_cons_succ, List.getElem_cons_zero]
              refine wpAnyH_take (i := 12) (oi := _) (v := undef) rfl (by kernel_rfl) (by kernel_rfl) (by kernel_rfl) (fun _ _ _ h => h) (Or.inr ⟨by rfl, rfl⟩) hHeld ?_
              try simp only [Act.put, List.setIfInBounds_toArray, List.set_cons_zero, List.set_cons_succ, List.getElem_toArray, List.getElem_cons_succ, List.getElem_cons_zero]
              refine wpAnyH_take (i := 13) (oi := _) (v := undef) rfl (by kernel_rfl) (by kernel_rfl) (by kernel_rfl) (fun _ _ _ h => h) (Or.inr ⟨by rfl, rfl⟩) hHeld ?_
              try simp only [Act.put, List.setIfInBounds_toArray, List.set_cons_zero, List.set_cons_succ, List.getElem_toArray, List.getElem_cons_succ, List.getElem_cons_zero]
              refine wpAnyH_take (i := 14) (oi := _) (v := .bool false) rfl (by kernel_rfl) (by kernel_rfl) (by kernel_rfl) (fun _ _ _ h => h) (Or.inl ⟨by rfl, fun w9 hS => ?_⟩) hHeld ?_
              · obtain ⟨s0, s1⟩ := hS
                go_simp
              try simp only [Act.put, List.setIfInBounds_toArray, List.set_cons_zero, List.set_cons_succ, List.getElem_toArray, List.getElem_cons_succ, List.getElem_cons_zero]
              refine wpAnyH_done (by kernel_rfl) ?_ _
              go_wp2_with fail
              exact ⟨⟨j + 1, by go_num, by omega, hbd⟩, by simp [intOf]; omega⟩
            · have dij : ((i : Int) != (j : Int)) = true := by simp; omega
              have dij2 : decide ((i : Int) = (j : Int)) = false := decide_eq_false (by omega)
              have hne : x ≠ y := fun e => hij ((List.getElem?_inj hlt hst.out.nodup).1 (by rw [HX.out, HY.out, e]))
              have HRxy := Lib.hid (fun W hW => HRF.out W x y hW (HSZ.out x hxm) (HSZ.out y hym) (hF.out.apart ((hmem.out x).1 hxm) ((hmem.out y).1 hym) hne))
              clear hij hne
              refine wp_region_held_drew (S := fun W => W.cell? ⟨bl, ol + i, none⟩ = some (.string x) ∧ W.cell? ⟨bl, ol + j, none⟩ = some (.string y)) (by kernel_rfl) (HSS.out _ hbd) (fun hHeld => ?_)
              refine wpAnyH_take (i := 0) (oi := _) (v := .int .i64 (i : Int)) rfl (by kernel_rfl) (by kernel_rfl) (by kernel_rfl) (fun _ _ _ h => h) (Or.inl ⟨by rfl, fun w9 hS => ?_⟩) hHeld ?_
              · obtain ⟨s0, s1⟩ := hS
                go_simp
              try simp only [Act.put, List.setIfInBounds_toArray, List.set_cons_zero, List.set_cons_succ, List.getElem_toArray, List.getElem_cons_zero]
              refine wpAnyH_take (i := 1) (oi := _) (v := .int .i64 (j : Int)) rfl (by kernel_rfl) (by kernel_rfl) (by kernel_rfl) (fun _ _ _ h => h) (Or.inl ⟨by rfl, fun w9 hS => ?_⟩) hHeld ?_
              · obtain ⟨s0, s1⟩ := hS
                go_simp
              try simp only [Act.put, List.setIfInBounds_toArray, List.set_cons_zero, List.set_cons_succ, List.getElem_toArray, List.getElem_cons_succ, List.getElem_cons_zero]
              refine wpAnyH_take (i := 2) (oi := _) (v := .bool true) rfl (by kernel_rfl) (by kernel_rfl) (by kernel_rfl) (fun _ _ _ h => h) (Or.inl ⟨by rfl, fun w9 hS => ?_⟩) hHeld ?_
              · obtain ⟨s0, s1⟩ := hS
                go_simp
              try simp only [Act.put, List.setIfInBounds_toArray, List.set_cons_zero, List.set_cons_succ, List.getElem_toArray, List.getElem_cons_succ, List.getElem_cons_zero]
              refine wpAnyH_take (i := 3) (oi := _) (v := .bool true) rfl (by kernel_rfl) (by kernel_rfl) (by kernel_rfl) (fun _ _ _ h => h) (Or.inl ⟨by rfl, fun w9 hS => ?_⟩) hHeld ?_
              · obtain ⟨s0, s1⟩ := hS
                go_simp
              try simp only [Act.put, List.setIfInBounds_toArray, List.set_cons_zero, List.set_cons_succ, List.getElem_toArray, List.getElem_cons_succ, List.getElem_cons_zero]
              refine wpAnyH_take (i := 4) (oi := _) (v := .slice (some ⟨nb, no, none⟩) l.length ck) rfl (by kernel_rfl) (by kernel_rfl) (by kernel_rfl) (fun _ _ _ h => h) (Or.inl ⟨by rfl, fun w9 hS => ?_⟩) hHeld ?_
              · obtain ⟨s0, s1⟩ := hS
                go_simp
              try simp only [Act.put, List.setIfInBounds_toArray, List.set_cons_zero, List.set_cons_succ, List.getElem_toArray, List.getElem_cons_succ, List.getElem_cons_zero]
              refine wpAnyH_take (i := 5) (oi := _) (v := .slice (some ⟨bl, ol, none⟩) L.length cL) rfl (by kernel_rfl) (by kernel_rfl) (by kernel_rfl) (fun _ _ _ h => h) (Or.inl ⟨by rfl, fun w9 hS => ?_⟩) hHeld ?_
              · obtain ⟨s0, s1⟩ := hS
                go_simp
              try simp only [Act.put, List.setIfInBounds_toArray, List.set_cons_zero, List.set_cons_succ, List.getElem_toArray, List.getElem_cons_succ, List.getElem_cons_zero]
              refine wpAnyH_take (i := 6) (oi := _) (v := .int .i64 (i : Int)) rfl (by kernel_rfl) (by kernel_rfl) (by kernel_rfl) (fun _ _ _ h => h) (Or.inl ⟨by rfl, fun w9 hS => ?_⟩) hHeld ?_
              · obtain ⟨s0, s1⟩ := hS
                go_simp
              try simp only [Act.put, List.setIfInBounds_toArray, List.set_cons_zero, List.set_cons_succ, List.getElem_toArray, List.getElem_cons_succ, List.getElem_cons_zero]
              refine wpAnyH_take (i := 7) (oi := _) (v := .pointer (some ⟨bl, ol + i, none⟩)) rfl (by kernel_rfl) (by kernel_rfl) (by kernel_rfl) (fun _ _ _ h => h) (Or.inl ⟨by rfl, fun w9 hS => ?_⟩) hHeld ?_
              · obtain ⟨s0, s1⟩ := hS
                go_simp
              try simp only [Act.put, List.setIfInBounds_toArray, List.set_cons_zero, List.set_cons_succ, List.getElem_toArray, List.getElem_cons_succ, List.getElem_cons_zero]
              refine wpAnyH_take (i := 8) (oi := _) (v := .string x) rfl (by kernel_rfl) (by kernel_rfl) (by kernel_rfl) (fun _ _ _ h => h) (Or.inl ⟨by rfl, fun w9 hS => ?_⟩) hHeld ?_
              · obtain ⟨s0, s1⟩ := hS
                go_simp
              try simp only [Act.put, List.setIfInBounds_toArray, List.set_cons_zero, List.set_cons_succ, List.getElem_toArray, List.getElem_cons_succ, List.getElem_cons_zero]
              refine wpAnyH_take (i := 9) (oi := _) (v := .slice (some ⟨bl, ol, none⟩) L.length cL) rfl (by kernel_rfl) (by kernel_rfl) (by kernel_rfl) (fun _ _ _ h => h) (Or.inl ⟨by rfl, fun w9 hS => ?_⟩) hHeld ?_
              · obtain ⟨s0, s1⟩ := hS
                go_simp
              try simp only [Act.put, List.setIfInBounds_toArray, List.set_cons_zero, List.set_cons_succ, List.getElem_toArray, List.getElem_cons_succ, List.getElem_cons_zero]
              refine wpAnyH_take (i := 10) (oi := _) (v := .int .i64 (j : Int)) rfl (by kernel_rfl) (by kernel_rfl) (by kernel_rfl) (fun _ _ _ h => h) (Or.inl ⟨by rfl, fun w9 hS => ?_⟩) hHeld ?_
              · obtain ⟨s0, s1⟩ := hS
                go_simp
              try simp only [Act.put, List.setIfInBounds_toArray, List.set_cons_zero, List.set_cons_succ, List.getElem_toArray, List.getElem_cons_succ, List.getElem_cons_zero]
              refine wpAnyH_take (i := 11) (oi := _) (v := .pointer (some ⟨bl, ol + j, none⟩)) rfl (by kernel_rfl) (by kernel_rfl) (by kernel_rfl) (fun _ _ _ h => h) (Or.inl ⟨by rfl, fun w9 hS => ?_⟩) hHeld ?_
              · obtain ⟨s0, s1⟩ := hS
                go_simp
              try simp only [Act.put, List.setIfInBounds_toArray, List.set_cons_zero, List.set_cons_succ, List.getElem_toArray, List.getElem_cons_succ, List.getElem_cons_zero]
              refine wpAnyH_take (i := 12) (oi := _) (v := .string y) rfl (by kernel_rfl) (by kernel_rfl) (by kernel_rfl) (fun _ _ _ h => h) (Or.inl ⟨by rfl, fun w9 hS => ?_⟩) hHeld ?_
              · obtain ⟨s0, s1⟩ := hS
                go_simp
              try simp only [Act.put, List.setIfInBounds_toArray, List.set_cons_zero, List.set_cons_succ, List.getElem_toArray, List.getElem_cons_succ, List.getElem_cons_zero]
              refine wpAnyH_ready (rs := [13]) (by kernel_rfl) (by simp) (AllReadyH.cons (o := _) rfl (fun K hK => ?_) AllReadyH.nil)
              go_simp
              refine (HRxy.out _ hbd).mono ?_
              rintro e z1 ⟨rfl, hz1⟩
              have hbz := hbd.next hz1
              refine hK.out _ _ (HSS.out _ hbz) (fun hHeld => ?_)
              clear hK K
              try simp only [Act.put, List.setIfInBounds_toArray, List.set_cons_zero, List.set_cons_succ, List.getElem_toArray, List.getElem_cons_succ, List.getElem_cons_zero]
              refine wpAnyH_take (i := 14) (oi := _) (v := .bool false) rfl (by kernel_rfl) (by kernel_rfl) (by kernel_rfl) (fun _ _ _ h => h) (Or.inl ⟨by rfl, fun w9 hS => ?_⟩) hHeld ?_
              · obtain ⟨s0, s1⟩ := hS
                go_simp
              try simp only [Act.put, List.setIfInBounds_toArray, List.set_cons_zero, List.set_cons_succ, List.getElem_toArray, List.getElem_cons_succ, List.getElem_cons_zero]
              refine wpAnyH_done (by kernel_rfl) ?_ _
              go_wp2_with fail
              exact ⟨⟨j + 1, by go_num, by omega, hbz⟩, by simp [intOf]; omega⟩
          · have hdj : decide ((j : Int) < (L.length : Int)) = false := decide_eq_false (by omega)
            go_wp2_with fail
            exact ⟨⟨i + 1, by go_num, by omega, hbr⟩, by simp [intOf]; omega⟩
      · have hd : decide ((i : Int) < (L.length : Int)) = false := decide_eq_false (by omega)
        go_wp2_with fail
        obtain ⟨wx, hwx⟩ : ∃ v, v = wr := ⟨_, rfl⟩
        rw [← hwx] at hbr
        rw [← hwx]
        clear hwx
        go_loopw [14] (fun i wr => GreRel l.length w3 i wr) (fun i _ => l.length - (intOf i).toNat)
        case atStart => exact ⟨0, rfl, Nat.zero_le _, hbr⟩
        case round =>
          clear hbr f1 hd
          obtain ⟨k, rfl, hk, hbr⟩ := hrel
          have f1 : IntKind.i64.wrap ((k : Int) + 1) = (k : Int) + 1 := IntWalk.i64_in _ (by omega)
          by_cases hltk : k < l.length
          · have hdk : decide ((k : Int) < (l.length : Int)) = true := decide_eq_true (by omega)
            have hdk' : (k : Int) < (l.length : Int) := by omega
            have hk0 : (0 : Int) ≤ (k : Int) := by omega
            obtain ⟨x, hx⟩ : ∃ x, l[k]? = some x := ⟨l[k], List.getElem?_eq_getElem hltk⟩
            have hzs := hIDS.out x (List.mem_of_getElem? hx)
            have hidx : x.n = idB k := (hF.out.at_ k x.f (by rw [List.getElem?_map, hx]; rfl)).1
            have HCZ := Lib.hid (hncell3.out _ _ (nc_get hx).1)
            obtain ⟨z, hzn⟩ : ∃ z, z = x.n := ⟨_, rfl⟩
            rw [← hzn] at hzs hidx HCZ
            have HZI := Lib.hid hidx
            have cz := HCZ.out wr hbr
            have HRa := Lib.hid (HR.out wr a z hbr hsa hzs)
            clear hx hzn hidx
            go_wp2_with fail
            refine HRa.out.mono ?_
            rintro e w4 ⟨va, rfl, hva, hb4⟩
            have hbr4 := hbr.next hb4
            clear HRa hbr hb4 cz
            cases va with
            | false =>
              clear hva
              go_wp2_with fail
              exact ⟨⟨k + 1, by go_num, by omega, hbr4⟩, by simp [intOf]; omega⟩
            | true =>
              have hra : Rch (l.map NdA.f) [a] z := hva.1 rfl
              have cz := HCZ.out w4 hbr4
              have HRb := Lib.hid (HR.out w4 b z hbr4 hsb hzs)
              have HRA := Lib.hid hra
              clear hva hra
              go_wp2_with fail
              refine HRb.out.mono ?_
              rintro e w5 ⟨vb, rfl, hvb, hb5⟩
              have hbr5 := hbr4.next hb5
              clear HRb hbr4 hb5 cz
              cases vb with
              | false =>
                clear hvb
                go_wp2_with fail
                exact ⟨⟨k + 1, by go_num, by omega, hbr5⟩, by simp [intOf]; omega⟩
              | true =>
                have hrb : Rch (l.map NdA.f) [b] z := hvb.1 rfl
                have HSB : Hid (∃ y ∈ L, Rch (l.map NdA.f) [y] z) := by
                  have e := HZI.out
                  have h1 := HRA.out
                  have h2 := hrb
                  rw [e] at h1 h2
                  obtain ⟨y, hy1, hy2⟩ := hF.out.some_base (l.map NdA.f).length k (by rw [List.length_map]; exact hltk) (by omega) h1 h2
                  exact ⟨y, (hmem.out y).2 hy1, by rw [e]; exact hy2⟩
                clear hvb hrb
                go_wp2_with fail
                go_loopw [15, 16] (fun s i wr => SomRel (l.map NdA.f) L z w3 s i wr) (fun _ i _ => L.length - (intOf i).toNat)
                case atStart => exact ⟨0, false, rfl, rfl, Nat.zero_le _, ⟨(fun h => by cases h), fun ⟨j, hj, _⟩ => by omega⟩, hbr5⟩
                case round =>
                  clear hbr5
                  obtain ⟨j, u, rfl, rfl, hj, hu, hbj⟩ := hrel
                  have f2 : IntKind.i64.wrap ((j : Int) + 1) = (j : Int) + 1 := IntWalk.i64_in _ (by omega)
                  by_cases hltj : j < L.length
                  · have hdj : decide ((j : Int) < (L.length : Int)) = true := decide_eq_true (by omega)
                    have hdj' : (j : Int) < (L.length : Int) := by omega
                    have hj0 : (0 : Int) ≤ (j : Int) := by omega
                    obtain ⟨y, hy⟩ : ∃ y, L[j]? = some y := ⟨L[j], List.getElem?_eq_getElem hltj⟩
                    have hym := List.mem_of_getElem? hy
                    obtain ⟨bl, ol, hAL, hbl, hcl⟩ := (HRL.out w3 (Below.refl _ _)).at_ (by omega)
                    have HSS : Hid (∀ W, Below w3.heap.size w3 W → W.cell? ⟨bl, ol + j, none⟩ = some (.string y) ∧ W.cell? ⟨nb, no + k * 2, none⟩ = some (.string z)) := fun W hW => ⟨(hW.cell (p := ⟨bl, ol + j, none⟩) hbl).trans (hcl j _ (by simp [pc, hy])), HCZ.out W hW⟩
                    have hbd := hbj.drew
                    have HRY := Lib.hid (fun W hW => HR.out W y z hW (HSZ.out y hym) hzs)
                    have HU : Hid ((u = true ∨ Rch (l.map NdA.f) [y] z) ↔ ∃ j', j' < j + 1 ∧ ∃ y, L[j']? = some y ∧ Rch (l.map NdA.f) [y] z) := by
                      constructor
                      · rintro (h1 | h1)
                        · obtain ⟨j', hj', h2⟩ := hu.out.1 h1
                          exact ⟨j', by omega, h2⟩
                        · exact ⟨j, by omega, y, hy, h1⟩
                      · rintro ⟨j', hj', y', hy', h1⟩
                        by_cases e : j' = j
                        · rw [e, hy] at hy'
                          injection hy' with hy'
                          rw [← hy'] at h1
                          exact .inr h1
                        · exact .inl (hu.out.2 ⟨j', by omega, y', hy', h1⟩)
                    obtain ⟨B7, hB7⟩ : ∃ B : Option Addr, B = AL := ⟨_, rfl⟩
                    rw [← hB7] at hAL
                    subst hAL
                    subst hB7
                    clear hy hcl hu
                    go_wp2_with fail
                    cases u with
                    | true =>
                      refine wp_region_held_drew (S := fun W => W.cell? ⟨bl, ol + j, none⟩ = some (.string y) ∧ W.cell? ⟨nb, no + k * 2, none⟩ = some (.string z)) (by kernel_rfl) (HSS.out _ hbd) (fun hHeld => ?_)
                      refine wpAnyH_take (i := 0) (oi := _) (v := .bool true) rfl (by kernel_rfl) (by kernel_rfl) (by kernel_rfl) (fun _ _ _ h => h) (Or.inl ⟨by rfl, fun w9 hS => ?_⟩) hHeld ?_
                      · obtain ⟨s0, s1⟩ := hS
                        go_simp
                      try simp only [Act.put, List.setIfInBounds_toArray, List.set_cons_zero, List.set_cons_succ, List.getElem_toArray, List.getElem_cons_zero]
                      refine wpAnyH_take (i := 1) (oi := _) (v := .bool true) rfl (by kernel_rfl) (by kernel_rfl) (by kernel_rfl) (fun _ _ _ h => h) (Or.inl ⟨by rfl, fun w9 hS => ?_⟩) hHeld ?_
                      · obtain ⟨s0, s1⟩ := hS
                        go_simp
                      try simp only [Act.put, List.setIfInBounds_toArray, List.set_cons_zero, List.set_cons_succ, List.getElem_toArray, List.getElem_cons_succ, List.getElem_cons_zero]
                      refine wpAnyH_take (i := 2) (oi := _) (v := undef) rfl (by kernel_rfl) (by kernel_rfl) (by kernel_rfl) (fun _ _ _ h => h) (Or.inr ⟨by rfl, rfl⟩) hHeld ?_
                      try simp only [Act.put, List.setIfInBounds_toArray, List.set_cons_zero, List.set_cons_succ, List.getElem_toArray, List.getElem_cons_succ, List.getElem_cons_zero]
                      refine wpAnyH_take (i := 3) (oi := _) (v := undef) rfl (by kernel_rfl) (by kernel_rfl) (by kernel_rfl) (fun _ _ _ h => h) (Or.inr ⟨by rfl, rfl⟩) hHeld ?_
                      try simp only [Act.put, List.setIfInBounds_toArray, List.set_cons_zero, List.set_cons_succ, List.getElem_toArray, List.getElem_cons_succ, List.getElem_cons_zero]
                      refine wpAnyH_take (i := 4) (oi := _) (v := undef) rfl (by kernel_rfl) (by kernel_rfl) (by kernel_rfl) (fun _ _ _ h => h) (Or.inr ⟨by rfl, rfl⟩) hHeld ?_
                      try simp only [Act.put, List.setIfInBounds_toArray, List.set_cons_zero, List.set_cons_succ, List.getElem_toArray, List.getElem_cons_succ, List.getElem_cons_zero]
                      refine wpAnyH_take (i := 5) (oi := _) (v := undef) rfl (by kernel_rfl) (by kernel_rfl) (by kernel_rfl) (fun _ _ _ h => h) (Or.inr ⟨by rfl, rfl⟩) hHeld ?_
                      try simp only [Act.put, List.setIfInBounds_toArray, List.set_cons_zero, List.set_cons_succ, List.getElem_toArray, List.getElem_cons_succ, List.getElem_cons_zero]
                      refine wpAnyH_take (i := 6) (oi := _) (v := undef) rfl (by kernel_rfl) (by kernel_rfl) (by kernel_rfl) (fun _ _ _ h => h) (Or.inr ⟨by rfl, rfl⟩) hHeld ?_
                      try simp only [Act.put, List.setIfInBounds_toArray, List.set_cons_zero, List.set_cons_succ, List.getElem_toArray, List.getElem_cons_succ, List.getElem_cons_zero]
                      refine wpAnyH_take (i := 7) (oi := _) (v := undef) rfl (by kernel_rfl) (by kernel_rfl) (by kernel_rfl) (fun _ _ _ h => h) (Or.inr ⟨by rfl, rfl⟩) hHeld ?_
                      try simp only [Act.put, List.setIfInBounds_toArray, List.set_cons_zero, List.set_cons_succ, List.getElem_toArray, List.getElem_cons_succ, List.getElem_cons_zero]
                      refine wpAnyH_take (i := 8) (oi := _) (v := undef) rfl (by kernel_rfl) (by kernel_rfl) (by kernel_rfl) (fun _ _ _ h => h) (Or.inr ⟨by rfl, rfl⟩) hHeld ?_
                      try simp only [Act.put, List.setIfInBounds_toArray, List.set_cons_zero, List.set_cons_succ, List.getElem_toArray, List.getElem_cons_succ, List.getElem_cons_zero]
                      refine wpAnyH_take (i := 9) (oi := _) (v := undef) rfl (by kernel_rfl) (by kernel_rfl) (by kernel_rfl) (fun _ _ _ h => h) (Or.inr ⟨by rfl, rfl⟩) hHeld ?_
                      try simp only [Act.put, List.setIfInBounds_toArray, List.set_cons_zero, List.set_cons_succ, List.getElem_toArray, List.getElem_cons_succ, List.getElem_cons_zero]
                      refine wpAnyH_take (i := 10) (oi := _) (v := undef) rfl (by kernel_rfl) (by kernel_rfl) (by kernel_rfl) (fun _ _ _ h => h) (Or.inr ⟨by rfl, rfl⟩) hHeld ?_
                      try simp only [Act.put, List.setIfInBounds_toArray, List.set_cons_zero, List.set_cons_succ, List.getElem_toArray, List.getElem_cons_succ, List.getElem_cons_zero]
                      refine wpAnyH_take (i := 11) (oi := _) (v := undef) rfl (by kernel_rfl) (by kernel_rfl) (by kernel_rfl) (fun _ _ _ h => h) (Or.inr ⟨by rfl, rfl⟩) hHeld ?_
                      try simp only [Act.put, List.setIfInBounds_toArray, List.set_cons_zero, List.set_cons_succ, List.getElem_toArray, List.getElem_cons_succ, List.getElem_cons_zero]
                      refine wpAnyH_take (i := 12) (oi := _) (v := undef) rfl (by kernel_rfl) (by kernel_rfl) (by kernel_rfl) (fun _ _ _ h => h) (Or.inr ⟨by rfl, rfl⟩) hHeld ?_
                      try simp only [Act.put, List.setIfInBounds_toArray, List.set_cons_zero, List.set_cons_succ, List.getElem_toArray, List.getElem_cons_succ, List.getElem_cons_zero]
                      refine wpAnyH_take (i := 13) (oi := _) (v := .bool true) rfl (by kernel_rfl) (by kernel_rfl) (by kernel_rfl) (fun _ _ _ h => h) (Or.inl ⟨by rfl, fun w9 hS => ?_⟩) hHeld ?_
                      · obtain ⟨s0, s1⟩ := hS
                        go_simp
                      try simp only [Act.put, List.setIfInBounds_toArray, List.set_cons_zero, List.set_cons_succ, List.getElem_toArray, List.getElem_cons_succ, List.getElem_cons_zero]
                      refine wpAnyH_ready (rs := [14]) (by kernel_rfl) (by simp) (AllReadyH.cons (o := _) rfl (fun K hK => ?_) AllReadyH.nil)
                      go_simp
                      refine hK.out _ _ (HSS.out _ hbd) (fun hHeld => ?_)
                      clear hK K
                      try simp only [Act.put, List.setIfInBounds_toArray, List.set_cons_zero, List.set_cons_succ, List.getElem_toArray, List.getElem_cons_succ, List.getElem_cons_zero]
                      refine wpAnyH_done (by kernel_rfl) ?_ _
                      go_wp2_with fail
                      exact ⟨⟨j + 1, true, rfl, by go_num, by omega, ⟨fun _ => HU.out.1 (.inl rfl), fun _ => rfl⟩, hbd⟩, by simp [intOf]; omega⟩
                    | false =>
                      refine wp_region_held_drew (S := fun W => W.cell? ⟨bl, ol + j, none⟩ = some (.string y) ∧ W.cell? ⟨nb, no + k * 2, none⟩ = some (.string z)) (by kernel_rfl) (HSS.out _ hbd) (fun hHeld => ?_)
                      refine wpAnyH_take (i := 0) (oi := _) (v := .bool false) rfl (by kernel_rfl) (by kernel_rfl) (by kernel_rfl) (fun _ _ _ h => h) (Or.inl ⟨by rfl, fun w9 hS => ?_⟩) hHeld ?_
                      · obtain ⟨s0, s1⟩ := hS
                        go_simp
                      try simp only [Act.put, List.setIfInBounds_toArray, List.set_cons_zero, List.set_cons_succ, List.getElem_toArray, List.getElem_cons_zero]
                      refine wpAnyH_take (i := 1) (oi := _) (v := .bool false) rfl (by kernel_rfl) (by kernel_rfl) (by kernel_rfl) (fun _ _ _ h => h) (Or.inl ⟨by rfl, fun w9 hS => ?_⟩) hHeld ?_
                      · obtain ⟨s0, s1⟩ := hS
                        go_simp
                      try simp only [Act.put, List.setIfInBounds_toArray, List.set_cons_zero, List.set_cons_succ, List.getElem_toArray, List.getElem_cons_succ, List.getElem_cons_zero]
                      refine wpAnyH_take (i := 2) (oi := _) (v := .slice (some ⟨nb, no, none⟩) l.length ck) rfl (by kernel_rfl) (by kernel_rfl) (by kernel_rfl) (fun _ _ _ h => h) (Or.inl ⟨by rfl, fun w9 hS => ?_⟩) hHeld ?_
                      · obtain ⟨s0, s1⟩ := hS
                        go_simp
                      try simp only [Act.put, List.setIfInBounds_toArray, List.set_cons_zero, List.set_cons_succ, List.getElem_toArray, List.getElem_cons_succ, List.getElem_cons_zero]
                      refine wpAnyH_take (i := 3) (oi := _) (v := .slice (some ⟨bl, ol, none⟩) L.length cL) rfl (by kernel_rfl) (by kernel_rfl) (by kernel_rfl) (fun _ _ _ h => h) (Or.inl ⟨by rfl, fun w9 hS => ?_⟩) hHeld ?_
                      · obtain ⟨s0, s1⟩ := hS
                        go_simp
                      try simp only [Act.put, List.setIfInBounds_toArray, List.set_cons_zero, List.set_cons_succ, List.getElem_toArray, List.getElem_cons_succ, List.getElem_cons_zero]
                      refine wpAnyH_take (i := 4) (oi := _) (v := .int .i64 (j : Int)) rfl (by kernel_rfl) (by kernel_rfl) (by kernel_rfl) (fun _ _ _ h => h) (Or.inl ⟨by rfl, fun w9 hS => ?_⟩) hHeld ?_
                      · obtain ⟨s0, s1⟩ := hS
                        go_simp
                      try simp only [Act.put, List.setIfInBounds_toArray, List.set_cons_zero, List.set_cons_succ, List.getElem_toArray, List.getElem_cons_succ, List.getElem_cons_zero]
                      refine wpAnyH_take (i := 5) (oi := _) (v := .pointer (some ⟨bl, ol + j, none⟩)) rfl (by kernel_rfl) (by kernel_rfl) (by kernel_rfl) (fun _ _ _ h => h) (Or.inl ⟨by rfl, fun w9 hS => ?_⟩) hHeld ?_
                      · obtain ⟨s0, s1⟩ := hS
                        go_simp
                      try simp only [Act.put, List.setIfInBounds_toArray, List.set_cons_zero, List.set_cons_succ, List.getElem_toArray, List.getElem_cons_succ, List.getElem_cons_zero]
                      refine wpAnyH_take (i := 6) (oi := _) (v := .string y) rfl (by kernel_rfl) (by kernel_rfl) (by kernel_rfl) (fun _ _ _ h => h) (Or.inl ⟨by rfl, fun w9 hS => ?_⟩) hHeld ?_
                      · obtain ⟨s0, s1⟩ := hS
                        go_simp
                      try simp only [Act.put, List.setIfInBounds_toArray, List.set_cons_zero, List.set_cons_succ, List.getElem_toArray, List.getElem_cons_succ, List.getElem_cons_zero]
                      refine wpAnyH_take (i := 7) (oi := _) (v := .slice (some ⟨nb, no, none⟩) l.length ck) rfl (by kernel_rfl) (by kernel_rfl) (by kernel_rfl) (fun _ _ _ h => h) (Or.inl ⟨by rfl, fun w9 hS => ?_⟩) hHeld ?_
                      · obtain ⟨s0, s1⟩ := hS
                        go_simp
                      try simp only [Act.put, List.setIfInBounds_toArray, List.set_cons_zero, List.set_cons_succ, List.getElem_toArray, List.getElem_cons_succ, List.getElem_cons_zero]
                      refine wpAnyH_take (i := 8) (oi := _) (v := .int .i64 (k : Int)) rfl (by kernel_rfl) (by kernel_rfl) (by kernel_rfl) (fun _ _ _ h => h) (Or.inl ⟨by rfl, fun w9 hS => ?_⟩) hHeld ?_
                      · obtain ⟨s0, s1⟩ := hS
                        go_simp
                      try simp only [Act.put, List.setIfInBounds_toArray, List.set_cons_zero, List.set_cons_succ, List.getElem_toArray, List.getElem_cons_succ, List.getElem_cons_zero]
                      refine wpAnyH_take (i := 9) (oi := _) (v := .pointer (some ⟨nb, no + k * 2, none⟩)) rfl (by kernel_rfl) (by kernel_rfl) (by kernel_rfl) (fun _ _ _ h => h) (Or.inl ⟨by rfl, fun w9 hS => ?_⟩) hHeld ?_
                      · obtain ⟨s0, s1⟩ := hS
                        go_simp
                      try simp only [Act.put, List.setIfInBounds_toArray, List.set_cons_zero, List.set_cons_succ, List.getElem_toArray, List.getElem_cons_succ, List.getElem_cons_zero]
                      refine wpAnyH_take (i := 10) (oi := _) (v := .pointer (some ⟨nb, no + k * 2, none⟩)) rfl (by kernel_rfl) (by kernel_rfl) (by kernel_rfl) (fun _ _ _ h => h) (Or.inl ⟨by rfl, fun w9 hS => ?_⟩) hHeld ?_
                      · obtain ⟨s0, s1⟩ := hS
                        go_simp
                      try simp only [Act.put, List.setIfInBounds_toArray, List.set_cons_zero, List.set_cons_succ, List.getElem_toArray, List.getElem_cons_succ, List.getElem_cons_zero]
                      refine wpAnyH_take (i := 11) (oi := _) (v := .string z) rfl (by kernel_rfl) (by kernel_rfl) (by kernel_rfl) (fun _ _ _ h => h) (Or.inl ⟨by rfl, fun w9 hS => ?_⟩) hHeld ?_
                      · obtain ⟨s0, s1⟩ := hS
                        go_simp
                      try simp only [Act.put, List.setIfInBounds_toArray, List.set_cons_zero, List.set_cons_succ, List.getElem_toArray, List.getElem_cons_succ, List.getElem_cons_zero]
                      refine wpAnyH_ready (rs := [12]) (by kernel_rfl) (by simp) (AllReadyH.cons (o := _) rfl (fun K hK => ?_) AllReadyH.nil)
                      go_simp
                      refine (HRY.out _ hbd).mono ?_
                      rintro e z1 ⟨v, rfl, hv, hz1⟩
                      have hbz := hbd.next hz1
                      have HV := Lib.hid hv
                      clear hv
                      refine hK.out _ _ (HSS.out _ hbz) (fun hHeld => ?_)
                      clear hK K
                      try simp only [Act.put, List.setIfInBounds_toArray, List.set_cons_zero, List.set_cons_succ, List.getElem_toArray, List.getElem_cons_succ, List.getElem_cons_zero]
                      refine wpAnyH_take (i := 13) (oi := _) (v := .bool v) rfl (by kernel_rfl) (by kernel_rfl) (by kernel_rfl) (fun _ _ _ h => h) (Or.inl ⟨by rfl, fun w9 hS => ?_⟩) hHeld ?_
                      · obtain ⟨s0, s1⟩ := hS
                        go_simp
                      try simp only [Act.put, List.setIfInBounds_toArray, List.set_cons_zero, List.set_cons_succ, List.getElem_toArray, List.getElem_cons_succ, List.getElem_cons_zero]
                      refine wpAnyH_ready (rs := [14]) (by kernel_rfl) (by simp) (AllReadyH.cons (o := _) rfl (fun K hK => ?_) AllReadyH.nil)
                      go_simp
                      refine hK.out _ _ (HSS.out _ hbz) (fun hHeld => ?_)
                      clear hK K
                      try simp only [Act.put, List.setIfInBounds_toArray, List.set_cons_zero, List.set_cons_succ, List.getElem_toArray, List.getElem_cons_succ, List.getElem_cons_zero]
                      refine wpAnyH_done (by kernel_rfl) ?_ _
                      go_wp2_with fail
                      exact ⟨⟨j + 1, v, rfl, by go_num, by omega, ⟨fun h => HU.out.1 (.inr (HV.out.1 h)), fun h => HV.out.2 ((HU.out.2 h).resolve_left (by simp))⟩, hbz⟩, by simp [intOf]; omega⟩
                  · have hdj : decide ((j : Int) < (L.length : Int)) = false := decide_eq_false (by omega)
                    obtain rfl : u = true := hu.out.2 (by
                      obtain ⟨y, hy, h1⟩ := HSB.out
                      obtain ⟨j', hj', e⟩ := List.mem_iff_getElem.1 hy
                      exact ⟨j', by omega, y, by rw [List.getElem?_eq_getElem hj', e], h1⟩)
                    clear hu
                    go_wp2_with fail
                    exact ⟨⟨k + 1, by go_num, by omega, hbj⟩, by simp [intOf]; omega⟩
          · have hdk : decide ((k : Int) < (l.length : Int)) = false := decide_eq_false (by omega)
            have HRab := Lib.hid (HR.out wr a b hbr hsa hsb)
            go_wp2_with fail
            refine HRab.out.mono ?_
            rintro e w4 ⟨v, rfl, hv, hb4⟩
            have hbr4 := hbr.next hb4
            have hfin := hb03.next hbr4
            cases v with
            | false =>
              clear hv
              go_wp2_with fail
              go_ret
              exact ⟨rfl, hfin⟩
            | true =>
              have hL1 : L = [b] := hF.out.one (hv.1 rfl) hst.out hmem.out
              have hrL := HRL.out w4 hbr4
              rw [hL1] at hrL
              obtain ⟨bl, ol, hAL, hbl, hcl⟩ := hrL.at_ (by simp)
              have cb : w4.cell? ⟨bl, ol, none⟩ = some (.string b) := hcl 0 _ rfl
              have hll1 : L.length = 1 := by rw [hL1]; rfl
              have hbb : (b.toList == b.toList) = true := beq_self_eq_true _
              rw [hll1]
              obtain ⟨B7, hB7⟩ : ∃ B : Option Addr, B = AL := ⟨_, rfl⟩
              rw [← hB7] at hAL
              subst hAL
              subst hB7
              clear hv hL1 hrL hcl hll1 HRL HRab hmem hst HSZ
              go_wp2_with fail
              go_ret
              exact ⟨rfl, hfin⟩
end Go.Proofs.Yteeajmgiamdfdaa
