/- The walk of the law GraphTurns. Conditions: fewer than 2^38 texts are to be looked at; ids that memory holds. -/
import Derived.Test.YteeajmgiamdfdaaGraphReaches
namespace Go.Proofs.Yteeajmgiamdfdaa
open Go.RowKit Go.Dol
set_option linter.unusedVariables false
theorem base_self {l : List Nd} {a : ByteArray} : BaseP l a a a ↔ Rch l [a] a := by
  unfold BaseP
  constructor
  · rintro ⟨⟨h, _⟩, _⟩
    exact h
  · intro h
    exact ⟨⟨h, h⟩, fun ⟨o, ⟨h1, _⟩, _, h3⟩ => h3 h1⟩
set_option maxRecDepth 100000 in
set_option maxHeartbeats 8000000 in
theorem graphTurns_walk (A : Option Addr) (l : List NdA) (c : Nat) (A2 : Option Addr) (fr : List ByteArray) (c2 : Nat) (a b : ByteArray) (w : World) (h : NdsOk w A l) (hroom : room (l.map NdA.f) [] [] ≤ 274877906944) (hr2 : Rd w w.heap.size 1 A2 fr.length (pc fr)) (hz : ∀ x ∈ fr, x.size ≤ maxLen) (hf : fr.length ≤ 274877906944) (ha : a.size ≤ maxLen) (hb : b.size ≤ maxLen) :
    Calls Try.prog 7 #[.slice A l.length c, .slice A2 fr.length c2, .string a, .string b] w fun e w' => e = .returned (.bool true) ∧ Below w.heap.size w w' := by
  have hll := h.len
  have HA := Lib.hid (awake_calls w)
  go_enter Try.func7, Try.ntmps7
  go_wp2_with fail
  refine HA.out.mono ?_
  rintro e w1 ⟨rfl, hb1⟩
  clear HA
  by_cases hl1 : 100 < l.length
  · have d1 : decide ((100 : Int) < (l.length : Int)) = true := decide_eq_true (by omega)
    have d1' : (100 : Int) < (l.length : Int) := by omega
    go_wp2_with fail
    go_ret
    exact ⟨rfl, hb1⟩
  · have d1 : decide ((100 : Int) < (l.length : Int)) = false := decide_eq_false (by omega)
    have d1' : ¬ (100 : Int) < (l.length : Int) := by omega
    by_cases hl2 : 100 < fr.length
    · have d2 : decide ((100 : Int) < (fr.length : Int)) = true := decide_eq_true (by omega)
      have d2' : (100 : Int) < (fr.length : Int) := by omega
      go_wp2_with fail
      go_ret
      exact ⟨rfl, hb1⟩
    · have d2 : decide ((100 : Int) < (fr.length : Int)) = false := decide_eq_false (by omega)
      have d2' : ¬ (100 : Int) < (fr.length : Int) := by omega
      have h1 := h.below hb1
      have HM := Lib.hid (mine_ok (c := c) h1 (by omega))
      have hs1 := hb1.size
      go_wp2_with fail
      refine HM.out.mono ?_
      rintro e w2 ⟨Ak, ck, rfl, hk2, hb2⟩
      have hb02 := hb1.next hb2
      have HN : Hid (∀ W, Below w2.heap.size w2 W → NdsOk W Ak l ∧ Rd W W.heap.size 1 A2 fr.length (pc fr)) := fun W hW =>
        ⟨hk2.below hW, (hr2.belowW (hb02.next hW) (Nat.le_refl _)).more (hb02.next hW).size⟩
      have hrm : fr.length + room (l.map NdA.f) [] [] ≤ 549755813888 := by omega
      have hrm1 : 1 + room (l.map NdA.f) [] [] ≤ 549755813888 := by omega
      obtain ⟨k0, r0⟩ := HN.out w2 (Below.refl _ _)
      have HO1 := Lib.hid (Order_calls Ak l ck A2 fr c2 w2 k0 r0 hz hrm)
      clear hk2 hr2 hroom HM h1 hb1 hb2 k0 r0 d1 d1' d2 d2' h hs1
      go_wp2_with fail
      refine HO1.out.mono ?_
      rintro e w3 ⟨all3, zs, A3, c3, rfl, hs3, hm3, hz3, hl3, ho3, hb3⟩
      obtain ⟨k0, r0⟩ := HN.out w3 hb3
      have HC1 := Lib.hid (Closure_calls Ak l ck A2 fr c2 w3 k0 r0 hz hrm)
      clear k0 r0 HO1
      go_wp2_with fail
      refine HC1.out.mono ?_
      rintro e w4 ⟨L4, A4, c4, rfl, hs4, hm4, hl4, ho4, hb4⟩
      have hb24 := hb3.next hb4
      have HE := Lib.hid (ids_same hs3 hm3 hs4 hm4)
      have HOK : Hid (OrdOk L4 zs) := by unfold Hid; rw [hz3.out, HE.out]; exact orderO_ok _ _
      have hrz := ((Rd.of_own ho3).belowW hb4 (Nat.le_refl _)).more hb4.size
      have hrl := Rd.of_own ho4
      have hzc := own_le ho3
      clear hs3 hm3 hz3 hs4 hm4 HE HC1 ho3 ho4 hb3 hb4
      go_wp2_with fail
      go_loopw [13] (fun i wr => GreRel zs.length w4 i wr) (fun i _ => zs.length - (intOf i).toNat)
      case atStart => exact ⟨0, rfl, Nat.zero_le _, Below.refl _ _⟩
      case round =>
        obtain ⟨k, rfl, hk, hbr⟩ := hrel
        have f1 : IntKind.i64.wrap ((k : Int) + 1) = (k : Int) + 1 := IntWalk.i64_in _ (by omega)
        by_cases hlt : k < zs.length
        · have hd : decide ((k : Int) < (zs.length : Int)) = true := decide_eq_true (by omega)
          have hd' : (k : Int) < (zs.length : Int) := by omega
          have hk0 : (0 : Int) ≤ (k : Int) := by omega
          obtain ⟨x, hx⟩ : ∃ x, zs[k]? = some x := ⟨zs[k], List.getElem?_eq_getElem hlt⟩
          obtain ⟨m1, hm1, hm1a, hm1b, hR1, hS1⟩ := slT_to (w := w4) (k := k) (k : Int) rfl hrz (by omega) hzc.1 hzc.2
          obtain ⟨bl, ol, hA3, hbl, hcl⟩ := hrz.at_ (by omega)
          have cx0 : w4.cell? ⟨bl, ol + k, none⟩ = some (.string x) := hcl k _ (by simp [pc, hx])
          have HSS : Hid (∀ W, Below w4.heap.size w4 W → W.cell? ⟨bl, ol + k, none⟩ = some (.string x)) := fun W hW => (hW.cell (p := ⟨bl, ol + k, none⟩) hbl).trans cx0
          have hno : x ∉ m1 := by
            rw [hm1.out]
            intro hm
            have hn := HOK.out.nodup
            obtain ⟨j, hj, e⟩ := List.mem_iff_getElem.1 hm
            rw [List.length_take] at hj
            rw [List.getElem_take] at e
            have e2 : zs[j]? = zs[k]? := by rw [List.getElem?_eq_getElem (by omega), e, hx]
            have := (List.getElem?_inj (by omega) hn).1 e2
            omega
          have hin : x ∈ L4 := HOK.out.sub x (List.mem_of_getElem? hx)
          have HH1 : Hid (∀ W, Below w4.heap.size w4 W → Calls Try.prog 20 #[.slice A3 m1.length c3, .string x] W fun e w' => ∃ n, e = .returned (.bool false) ∧ w' = W.drewN n) := fun W hW => by
            refine (lawHas_calls A3 m1 c3 x W _ (hR1.belowW hW (Nat.le_refl _)) (by omega)).mono ?_
            rintro e w' ⟨v, n, rfl, hv, hw⟩
            have e : v = false := by cases v with | false => rfl | true => exact absurd (hv.1 rfl) hno
            rw [e]
            exact ⟨n, rfl, hw⟩
          have HH2 : Hid (∀ W, Below w4.heap.size w4 W → Calls Try.prog 20 #[.slice A4 L4.length c4, .string x] W fun e w' => ∃ n, e = .returned (.bool true) ∧ w' = W.drewN n) := fun W hW => by
            refine (lawHas_calls A4 L4 c4 x W _ (hrl.belowW hW (Nat.le_refl _)) (by omega)).mono ?_
            rintro e w' ⟨v, n, rfl, hv, hw⟩
            have e : v = true := hv.2 hin
            rw [e]
            exact ⟨n, rfl, hw⟩
          have hbd := hbr.drew
          subst hA3
          clear hx hcl cx0 hno hin hrz hrl hm1 hm1a hm1b hR1
          go_wp2_with fail
          refine wp_region_held_drew (S := fun W => W.cell? ⟨bl, ol + k, none⟩ = some (.string x)) (by kernel_rfl) (HSS.out _ hbd) (fun hHeld => ?_)
          refine wpAnyH_take (i := 0) (oi := _) (v := .slice (some ⟨bl, ol, none⟩) zs.length c3) rfl (by kernel_rfl) (by kernel_rfl) (by kernel_rfl) (fun _ _ _ h => h) (Or.inl ⟨by rfl, fun w9 hS => ?_⟩) hHeld ?_
          · have s0 := hS
            go_simp
          try simp only [Act.put, List.setIfInBounds_toArray, List.set_cons_zero, List.set_cons_succ, List.getElem_toArray, List.getElem_cons_zero]
          refine wpAnyH_take (i := 1) (oi := _) (v := .int .i64 (k : Int)) rfl (by kernel_rfl) (by kernel_rfl) (by kernel_rfl) (fun _ _ _ h => h) (Or.inl ⟨by rfl, fun w9 hS => ?_⟩) hHeld ?_
          · have s0 := hS
            go_simp
          try simp only [Act.put, List.setIfInBounds_toArray, List.set_cons_zero, List.set_cons_succ, List.getElem_toArray, List.getElem_cons_succ, List.getElem_cons_zero]
          refine wpAnyH_take (i := 2) (oi := _) (v := .slice (some ⟨bl, ol, none⟩) m1.length c3) rfl (by kernel_rfl) (by kernel_rfl) (by kernel_rfl) (fun _ _ _ h => h) (Or.inl ⟨by rfl, fun w9 hS => ?_⟩) hHeld ?_
          · have s0 := hS
            go_simp
          try simp only [Act.put, List.setIfInBounds_toArray, List.set_cons_zero, List.set_cons_succ, List.getElem_toArray, List.getElem_cons_succ, List.getElem_cons_zero]
          refine wpAnyH_take (i := 3) (oi := _) (v := .slice (some ⟨bl, ol, none⟩) zs.length c3) rfl (by kernel_rfl) (by kernel_rfl) (by kernel_rfl) (fun _ _ _ h => h) (Or.inl ⟨by rfl, fun w9 hS => ?_⟩) hHeld ?_
          · have s0 := hS
            go_simp
          try simp only [Act.put, List.setIfInBounds_toArray, List.set_cons_zero, List.set_cons_succ, List.getElem_toArray, List.getElem_cons_succ, List.getElem_cons_zero]
          refine wpAnyH_take (i := 4) (oi := _) (v := .int .i64 (k : Int)) rfl (by kernel_rfl) (by kernel_rfl) (by kernel_rfl) (fun _ _ _ h => h) (Or.inl ⟨by rfl, fun w9 hS => ?_⟩) hHeld ?_
          · have s0 := hS
            go_simp
          try simp only [Act.put, List.setIfInBounds_toArray, List.set_cons_zero, List.set_cons_succ, List.getElem_toArray, List.getElem_cons_succ, List.getElem_cons_zero]
          refine wpAnyH_take (i := 5) (oi := _) (v := .pointer (some ⟨bl, ol + k, none⟩)) rfl (by kernel_rfl) (by kernel_rfl) (by kernel_rfl) (fun _ _ _ h => h) (Or.inl ⟨by rfl, fun w9 hS => ?_⟩) hHeld ?_
          · have s0 := hS
            go_simp
          try simp only [Act.put, List.setIfInBounds_toArray, List.set_cons_zero, List.set_cons_succ, List.getElem_toArray, List.getElem_cons_succ, List.getElem_cons_zero]
          refine wpAnyH_take (i := 6) (oi := _) (v := .string x) rfl (by kernel_rfl) (by kernel_rfl) (by kernel_rfl) (fun _ _ _ h => h) (Or.inl ⟨by rfl, fun w9 hS => ?_⟩) hHeld ?_
          · have s0 := hS
            go_simp
          try simp only [Act.put, List.setIfInBounds_toArray, List.set_cons_zero, List.set_cons_succ, List.getElem_toArray, List.getElem_cons_succ, List.getElem_cons_zero]
          refine wpAnyH_ready (rs := [7]) (by kernel_rfl) (by simp) (AllReadyH.cons (o := _) rfl (fun K hK => ?_) AllReadyH.nil)
          go_simp
          refine (HH1.out _ hbd).mono ?_
          rintro e z1 ⟨n1, rfl, hz1⟩
          have hbz : Below w4.heap.size w4 z1 := by rw [hz1]; exact below_drewN hbd n1
          clear hz1
          refine hK.out _ _ (HSS.out _ hbz) (fun hHeld => ?_)
          clear hK K
          try simp only [Act.put, List.setIfInBounds_toArray, List.set_cons_zero, List.set_cons_succ, List.getElem_toArray, List.getElem_cons_succ, List.getElem_cons_zero]
          refine wpAnyH_take (i := 8) (oi := _) (v := .bool false) rfl (by kernel_rfl) (by kernel_rfl) (by kernel_rfl) (fun _ _ _ h => h) (Or.inl ⟨by rfl, fun w9 hS => ?_⟩) hHeld ?_
          · have s0 := hS
            go_simp
          try simp only [Act.put, List.setIfInBounds_toArray, List.set_cons_zero, List.set_cons_succ, List.getElem_toArray, List.getElem_cons_succ, List.getElem_cons_zero]
          refine wpAnyH_take (i := 9) (oi := _) (v := .slice A4 L4.length c4) rfl (by kernel_rfl) (by kernel_rfl) (by kernel_rfl) (fun _ _ _ h => h) (Or.inl ⟨by rfl, fun w9 hS => ?_⟩) hHeld ?_
          · have s0 := hS
            go_simp
          try simp only [Act.put, List.setIfInBounds_toArray, List.set_cons_zero, List.set_cons_succ, List.getElem_toArray, List.getElem_cons_succ, List.getElem_cons_zero]
          refine wpAnyH_take (i := 10) (oi := _) (v := .slice (some ⟨bl, ol, none⟩) zs.length c3) rfl (by kernel_rfl) (by kernel_rfl) (by kernel_rfl) (fun _ _ _ h => h) (Or.inl ⟨by rfl, fun w9 hS => ?_⟩) hHeld ?_
          · have s0 := hS
            go_simp
          try simp only [Act.put, List.setIfInBounds_toArray, List.set_cons_zero, List.set_cons_succ, List.getElem_toArray, List.getElem_cons_succ, List.getElem_cons_zero]
          refine wpAnyH_take (i := 11) (oi := _) (v := .int .i64 (k : Int)) rfl (by kernel_rfl) (by kernel_rfl) (by kernel_rfl) (fun _ _ _ h => h) (Or.inl ⟨by rfl, fun w9 hS => ?_⟩) hHeld ?_
          · have s0 := hS
            go_simp
          try simp only [Act.put, List.setIfInBounds_toArray, List.set_cons_zero, List.set_cons_succ, List.getElem_toArray, List.getElem_cons_succ, List.getElem_cons_zero]
          refine wpAnyH_take (i := 12) (oi := _) (v := .pointer (some ⟨bl, ol + k, none⟩)) rfl (by kernel_rfl) (by kernel_rfl) (by kernel_rfl) (fun _ _ _ h => h) (Or.inl ⟨by rfl, fun w9 hS => ?_⟩) hHeld ?_
          · have s0 := hS
            go_simp
          try simp only [Act.put, List.setIfInBounds_toArray, List.set_cons_zero, List.set_cons_succ, List.getElem_toArray, List.getElem_cons_succ, List.getElem_cons_zero]
          refine wpAnyH_take (i := 13) (oi := _) (v := .string x) rfl (by kernel_rfl) (by kernel_rfl) (by kernel_rfl) (fun _ _ _ h => h) (Or.inl ⟨by rfl, fun w9 hS => ?_⟩) hHeld ?_
          · have s0 := hS
            go_simp
          try simp only [Act.put, List.setIfInBounds_toArray, List.set_cons_zero, List.set_cons_succ, List.getElem_toArray, List.getElem_cons_succ, List.getElem_cons_zero]
          refine wpAnyH_ready (rs := [14]) (by kernel_rfl) (by simp) (AllReadyH.cons (o := _) rfl (fun K hK => ?_) AllReadyH.nil)
          go_simp
          refine (HH2.out _ hbz).mono ?_
          rintro e z2 ⟨n2, rfl, hz2⟩
          have hby : Below w4.heap.size w4 z2 := by rw [hz2]; exact below_drewN hbz n2
          clear hz2
          refine hK.out _ _ (HSS.out _ hby) (fun hHeld => ?_)
          clear hK K
          try simp only [Act.put, List.setIfInBounds_toArray, List.set_cons_zero, List.set_cons_succ, List.getElem_toArray, List.getElem_cons_succ, List.getElem_cons_zero]
          refine wpAnyH_take (i := 15) (oi := _) (v := .bool false) rfl (by kernel_rfl) (by kernel_rfl) (by kernel_rfl) (fun _ _ _ h => h) (Or.inl ⟨by rfl, fun w9 hS => ?_⟩) hHeld ?_
          · have s0 := hS
            go_simp
          try simp only [Act.put, List.setIfInBounds_toArray, List.set_cons_zero, List.set_cons_succ, List.getElem_toArray, List.getElem_cons_succ, List.getElem_cons_zero]
          refine wpAnyH_take (i := 16) (oi := _) (v := .bool false) rfl (by kernel_rfl) (by kernel_rfl) (by kernel_rfl) (fun _ _ _ h => h) (Or.inl ⟨by rfl, fun w9 hS => ?_⟩) hHeld ?_
          · have s0 := hS
            go_simp
          try simp only [Act.put, List.setIfInBounds_toArray, List.set_cons_zero, List.set_cons_succ, List.getElem_toArray, List.getElem_cons_succ, List.getElem_cons_zero]
          refine wpAnyH_done (by kernel_rfl) ?_ _
          go_wp2_with fail
          exact ⟨⟨k + 1, by go_num, by omega, hby⟩, by simp [intOf]; omega⟩
        · have hd : decide ((k : Int) < (zs.length : Int)) = false := decide_eq_false (by omega)
          have hb2r := hb24.next hbr
          obtain ⟨k0, r0⟩ := HN.out wr hb2r
          have HB := Lib.hid (Bases_calls Ak l ck a a wr k0 ha ha hrm1)
          clear k0 r0 hrz hrl HOK
          go_wp2_with fail
          refine HB.out.mono ?_
          rintro e w5 ⟨L5, A5, c5, rfl, hs5, hm5, hl5, ho5, hb5⟩
          have hb25 := hb2r.next hb5
          obtain ⟨k0, r0⟩ := HN.out w5 hb25
          have HB1 := Lib.hid (Bases_calls Ak l ck a b w5 k0 ha hb hrm1)
          have hr5 := Rd.of_own ho5
          clear k0 r0 HB ho5
          go_wp2_with fail
          refine HB1.out.mono ?_
          rintro e w6 ⟨L6, A6, c6, rfl, hs6, hm6, hl6, ho6, hb6⟩
          have hb26 := hb25.next hb6
          obtain ⟨k0, r0⟩ := HN.out w6 hb26
          have HB2 := Lib.hid (Bases_calls Ak l ck b a w6 k0 hb ha hrm1)
          have hr56 := hr5.belowW hb6 (Nat.le_refl _)
          clear k0 r0 HB1 hr5
          go_wp2_with fail
          refine HB2.out.mono ?_
          rintro e w7 ⟨L7, A7, c7, rfl, hs7, hm7, hl7, ho7, hb7⟩
          have hb27 := hb26.next hb7
          have HE : Hid (L6 = L7) := ids_same hs6 hm6 hs7 (fun x => (hm7.out x).trans BaseP.turn)
          have HS := Lib.hid (SameTexts_calls A6 L6 c6 A7 L7 c7 w7 _ _ ((Rd.of_own ho6).belowW hb7 (Nat.le_refl _)) (Rd.of_own ho7) (by omega) (by omega))
          have hr57 := hr56.belowW hb7 (Nat.le_trans hb6.size (Nat.le_refl _))
          clear HB2 hs6 hm6 hs7 hm7 ho6 ho7 hl6 hl7 hb6 hb7 hr56 hb25 hb26
          go_wp2_with fail
          refine HS.out.mono ?_
          rintro e w8 ⟨v, nq, rfl, hv, hw8⟩
          obtain rfl : v = true := hv.2 HE.out
          have hb28 : Below w2.heap.size w2 w8 := by rw [hw8]; exact below_drewN hb27 nq
          have hr58 : Rd w8 w5.heap.size 1 A5 L5.length (pc L5) := by rw [hw8]; exact hr57.drewN nq
          have HH := Lib.hid (lawHas_calls A5 L5 c5 a w8 _ hr58 (by omega))
          clear hv HE hw8 HS hb27 hr57 hr58
          go_wp2_with fail
          refine HH.out.mono ?_
          rintro e w9 ⟨v9, nq9, rfl, hv9, hw9⟩
          have hb29 : Below w2.heap.size w2 w9 := by rw [hw9]; exact below_drewN hb28 nq9
          have HV9 : Hid (v9 = true ↔ Rch (l.map NdA.f) [a] a) := hv9.trans ((hm5.out a).trans base_self)
          obtain ⟨k0, r0⟩ := HN.out w9 hb29
          have HR := Lib.hid (Reaches_calls Ak l ck a a w9 k0 ha ha hrm1)
          clear hv9 hw9 HH hb28 hm5 hs5 k0 r0
          go_wp2_with fail
          refine HR.out.mono ?_
          rintro e w10 ⟨v10, rfl, hv10, hb10⟩
          obtain rfl : v10 = v9 := by
            have e : v10 = true ↔ v9 = true := hv10.trans HV9.out.symm
            cases v9 <;> cases v10 <;> simp_all
          have hvv : (v10 == v10) = true := by simp
          have hfin := hb02.next (hb29.next hb10)
          clear hv10 HV9 hb10 HR
          go_wp2_with fail
          go_ret
          exact ⟨rfl, hfin⟩
end Go.Proofs.Yteeajmgiamdfdaa
