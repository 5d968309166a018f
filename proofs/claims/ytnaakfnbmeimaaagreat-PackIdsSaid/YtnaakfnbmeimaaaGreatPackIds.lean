/- The walk of the law PackIds. Conditions: at most 2^47 objects. -/
import Derived.Test.YtnaakfnbmeimaaaGreatPckAwake
import Derived.Test.YtnaakfnbmeimaaaGreatPackIdsLaw
import Derived.Deep.DeepCutAuto
namespace Go.Proofs.YtnaakfnbmeimaaaGreat
open Go.RowKit Go.Dol
set_option linter.unusedVariables false
def IdsRel (n : Nat) (w : World) (i : Value) (wr : World) : Prop := ∃ k : Nat, i = .int .i64 k ∧ k ≤ n ∧ Below w.heap.size w wr
set_option maxRecDepth 100000 in
set_option maxHeartbeats 3200000 in
theorem packIds_walk (A : Option Addr) (l : List ObA) (c : Nat) (w : World) (hr : Rd w w.heap.size 10 A l.length (oc l)) (hos : Obs w w.heap.size l) (hl : l.length ≤ 140737488351232) :
    Calls Tryz.prog 9 #[.slice A l.length c] w fun e w' => e = .returned (.bool true) ∧ Below w.heap.size w w' := by
  have HA := Lib.hid (awake_calls w)
  go_enter Tryz.func9, Tryz.ntmps9
  go_wp2_with fail
  refine HA.out.mono ?_
  rintro e w1 ⟨rfl, hb1⟩
  have hs1 := hb1.size
  have hR := raws_calls A l c none [] 0 w1 ((hr.below hb1).more hs1) ((hos.below hb1).more hs1) hl Rd.nil Rws.nil (by simp)
  rw [List.map_nil] at hR
  have HR := Lib.hid hR
  clear hR HA
  go_wp2_with fail
  refine HR.out.mono ?_
  rintro e w2 ⟨ys, A2, c2, hys, rfl, ho2, hf2, hb2, hy44⟩
  have hs2 := hb2.size
  have hfew := raws_few hys.out
  have hB := Build_calls A2 ys c2 w2 (Rd.of_own ho2) hf2.rws (by omega) (fun x hx => Nat.le_trans (hfew x hx) (by omega))
  obtain ⟨rs, hrs⟩ : ∃ rs, rs = ys.map (·.l) := ⟨_, rfl⟩
  rw [← hrs] at hB
  have hrl : rs.length = ys.length := by rw [hrs]; simp
  have HRL := Lib.hid hrl
  have HB := Lib.hid hB
  have HRS := Lib.hid hrs
  clear hB hrs hrl HR
  go_wp2_with fail
  refine HB.out.mono ?_
  rintro e w3 ⟨hb3, hm⟩
  clear HB
  have hb03 := (hb1.next hb2).next hb3
  cases hbl : buildL geS rs with
  | none =>
    rw [hbl] at hm
    obtain rfl : e = .returned (.tuple #[.slice none 0 0, .int .i64 1]) := hm
    clear hbl
    go_wp2_with fail
    go_ret
    exact ⟨rfl, hb03⟩
  | some b =>
    rw [hbl] at hm
    obtain ⟨bl, A3, c3, hbl3, rfl, ho3, i1, i2⟩ := hm
    have hrfew : ∀ r ∈ rs, r.length ≤ 2097152 := by
      intro r hr
      rw [HRS.out] at hr
      obtain ⟨x, hx, rfl⟩ := List.mem_map.1 hr
      exact hfew x hx
    have hblen := build_len hbl hrfew (by rw [HRL.out]; exact hy44)
    have hP := Parse_calls A3 bl c3 w3 (Rd.of_own ho3) i1 i2 (by rw [hbl3.out]; omega)
    rw [show parseL geS bl = some (ptsOf [] 0 rs) by rw [hbl3.out]; exact parse_build obj_few hbl] at hP
    have HP := Lib.hid hP
    have HN := Lib.hid (build_ok hbl).2.2
    clear hP hbl ho3 i1 i2 hbl3 hblen
    go_wp2_with fail
    refine HP.out.mono ?_
    rintro e w4 ⟨hb4, g, ps, A4, c4, m, hps, rfl, hpk⟩
    have hpl : ps.length = ys.length := by
      rw [← HRL.out, ← pts_length rs [] 0, ← hps.out]; simp [ptp]
    have HPL := Lib.hid hpl
    have hgw : w3.heap.size ≤ g := hpk.gb
    have HPP := Lib.hid (Parts_calls hpk (by omega))
    clear hpl HP
    go_wp2_with fail
    refine HPP.out.mono ?_
    rintro e w5 ⟨A5, c5, rfl, ho5, hb5⟩
    have hpk5 := hpk.below hb5
    have HI := Lib.hid (Ids_calls hpk5 (by have := HPL.out; omega))
    clear HPP
    go_wp2_with fail
    refine HI.out.mono ?_
    rintro e w6 ⟨⟨Ai, ci, rfl, hoi⟩, ⟨vi, hpk6⟩, hg6⟩
    clear HI
    have ho25 := own_belowW (own_belowW (own_belowW ho2 hb3) hb4) hb5
    have ho26 := own_other ho25 hpk5.blk (by decide) hg6
    have ho56 := own_other ho5 hpk5.blk (by decide) hg6
    have hf5 := ((hf2.below hb3).below hb4).below hb5
    have hs3 := hb3.size
    have hs4 := hb4.size
    have hs5 := hb5.size
    have hf6 := hf5.keep hg6 (Other.blk hpk5.blk (by decide) (by omega))
    have hb05 := (hb03.next hb4).next hb5
    have hb06 : Below w.heap.size w w6 := hb05.trans (below_of_grown hg6 (by have := hb03.size; omega) hb05.size)
    have hs6 := hb06.size
    have hrd2 := Rd.of_own ho26
    have hrd5 := Rd.of_own ho56
    have hrdi := Rd.of_own hoi
    have hrw6 := hf6.rws
    have hid : ptp ps = ptsOf [] 0 rs := hps.out
    have HID := Lib.hid hid
    have hnd : ((ptp ps).map (·.id)).Nodup := by rw [hid, pts_ids]; exact HN.out
    have HND := Lib.hid hnd
    have HIL : Hid ((idsL (ptp ps)).length = ps.length) := by unfold Hid; rw [idsL_length]; simp [ptp]
    have d0 : ((ps.length : Int) != (ys.length : Int)) = false := by have := HPL.out; simp; omega
    clear hnd hid ho2 ho25 ho26 ho5 ho56 hf2 hf5 hf6 hoi hb4 hb5 hpk hpk5 hps hg6 hs5 hs4 hs3 hb05 hb03 hb3 hfew hrfew hb2
    go_wp2_with fail
    go_loopw [11] (fun i wr => IdsRel ys.length w6 i wr) (fun i _ => ys.length - (intOf i).toNat)
    case atStart => exact ⟨0, rfl, Nat.zero_le _, Below.refl _ _⟩
    case round =>
      obtain ⟨k, rfl, hk, hbel⟩ := hrel
      have f1 : IntKind.i64.wrap ((k : Int) + 1) = (k : Int) + 1 := IntWalk.i64_in _ (by omega)
      by_cases h1 : k < ys.length
      · have d1 : decide ((k : Int) < (ys.length : Int)) = true := decide_eq_true (by omega)
        have d1' : (k : Int) < (ys.length : Int) := by omega
        have d1p : (k : Int) < (ps.length : Int) := by have := HPL.out; omega
        have hk0 : (0 : Int) ≤ (k : Int) := by omega
        have hpl := HPL.out
        obtain ⟨x, hx⟩ : ∃ x, ys[k]? = some x := ⟨ys[k], List.getElem?_eq_getElem h1⟩
        obtain ⟨p, hp⟩ : ∃ p, ps[k]? = some p := ⟨ps[k]'(by omega), List.getElem?_eq_getElem (by omega)⟩
        obtain ⟨sk, hsk⟩ : ∃ s, (idsL (ptp ps))[k]? = some s := ⟨(idsL (ptp ps))[k]'(by rw [HIL.out]; omega), List.getElem?_eq_getElem (by rw [HIL.out]; omega)⟩
        obtain ⟨rb, ro, rfl, hrb, hcr⟩ := hrd2.at_ (by omega)
        obtain ⟨pb, po, rfl, hpb, hcp⟩ := hrd5.at_ (by omega)
        obtain ⟨ib, io, rfl, hib, hci⟩ := hrdi.at_ (by omega)
        have hQ : ∀ W, Below w6.heap.size w6 W → W.cell? ⟨pb, po + k * 4, none⟩ = some (.string (idS p.p.id)) ∧ W.cell? ⟨rb, ro + k, none⟩ = some (.slice x.A x.l.length x.c) ∧ W.cell? ⟨ib, io + k, none⟩ = some (.string sk) := fun W hW =>
          ⟨(hW.cell (p := ⟨pb, po + k * 4, none⟩) hpb).trans (hcp (k * 4 + 0) _ (ptc_get hp 0 (by omega))), (hW.cell (p := ⟨rb, ro + k, none⟩) hrb).trans (hcr k _ (rc_get hx)), (hW.cell (p := ⟨ib, io + k, none⟩) hib).trans (hci k _ (by simp [pc, hsk]))⟩
        obtain ⟨q1, q2, q3⟩ := hQ wr hbel
        obtain ⟨x1, x2, x3⟩ := hrw6 x (List.mem_of_getElem? hx)
        have hpid : p.p.id = sumOf x.l := by
          have e1 : ((ptp ps).map (·.id))[k]? = some p.p.id := by simp [ptp, hp]
          rw [HID.out, pts_ids, HRS.out] at e1
          simpa [hx] using e1.symm
        have HI : Hid (∀ l7 : List UInt8, l7 = sumOf x.l → idS p.p.id = (⟨l7.toArray⟩ : ByteArray)) := by
          unfold Hid; intro l7 h; rw [h, hpid]; rfl
        have hxl : x.l.length ≤ 140737488355296 := by
          have h9 := raws_few (os := l.map ObA.o) hys.out x (List.mem_of_getElem? hx)
          omega
        have HS : Hid (Calls Tryz.prog 17 #[.slice x.A x.l.length x.c] wr.drew fun e w' => ∃ l', Hid (l' = sumOf x.l) ∧ e = .returned (.string ⟨l'.toArray⟩) ∧ Below wr.drew.heap.size wr.drew w') :=
          Sum_calls x.A x.l x.c wr.drew ((x1.belowW (hbel.trans ((Below.refl _ _).drew)) (Nat.le_refl _)).more hbel.size) hxl
        have hfound : (lookP (ptp ps) sk.data.toList).isSome = true := by
          obtain ⟨p9, hp9, e9⟩ := ids_found (List.mem_of_getElem? hsk)
          rw [e9, idS_toList]
          exact look_mem hp9
        have hskz : sk.size ≤ maxLen := by
          obtain ⟨p9, hp9, e9⟩ := ids_found (List.mem_of_getElem? hsk)
          rw [e9]
          have : p9.id ∈ (ptp ps).map (·.id) := List.mem_map.2 ⟨p9, hp9, rfl⟩
          rw [HID.out, pts_ids] at this
          obtain ⟨r9, _, h9⟩ := List.mem_map.1 this
          show p9.id.toArray.size ≤ _
          rw [List.size_toArray, ← h9, sumOf_length]
          unfold maxLen; omega
        have HK : Hid (∀ W, Below w6.heap.size w6 W → Calls Tryz.prog 21 #[.pointer (some ⟨g, 0, none⟩), .string sk] W fun e w' => e = .returned (.bool true) ∧ w' = W) := fun W hW => by
          have h9 := Has_calls (hpk6.below hW) sk hskz
          rw [hfound] at h9
          exact h9
        rcases Nat.eq_zero_or_pos k with h0 | h0
        · have d2 : decide ((k : Int) > 0) = false := decide_eq_false (by omega)
          have d2' : ¬ ((k : Int) > 0) := by omega
          have HQ := Lib.hid hQ
          have H0 := Lib.hid h0
          clear h0 hQ hcr hcp hci hx hp hsk hpid hfound x1 hpl hpk6 hrd2 hrd5 hrdi hrw6
          go_wp2_with fail
          refine wp_region_held_drew (S := fun W => W.cell? ⟨pb, po + k * 4, none⟩ = some (.string (idS p.p.id)) ∧ W.cell? ⟨rb, ro + k, none⟩ = some (.slice x.A x.l.length x.c) ∧ W.cell? ⟨ib, io + k, none⟩ = some (.string sk)) (by kernel_rfl) (⟨q1, q2, q3⟩) (fun hHeld => ?_)
          refine wpAnyH_take (i := 0) (oi := _) (v := .slice (some ⟨pb, po, none⟩) ps.length c5) rfl (by kernel_rfl) (by kernel_rfl) (by kernel_rfl) (fun _ _ _ h => h) (Or.inl ⟨by rfl, fun w9 hS => ?_⟩) hHeld ?_
          · obtain ⟨s1, s2, s3⟩ := hS
            go_simp
          try simp only [Act.put, List.setIfInBounds_toArray, List.set_cons_zero, List.set_cons_succ, List.getElem_toArray, List.getElem_cons_zero]
          refine wpAnyH_take (i := 1) (oi := _) (v := .int .i64 (k : Int)) rfl (by kernel_rfl) (by kernel_rfl) (by kernel_rfl) (fun _ _ _ h => h) (Or.inl ⟨by rfl, fun w9 hS => ?_⟩) hHeld ?_
          · obtain ⟨s1, s2, s3⟩ := hS
            go_simp
          try simp only [Act.put, List.setIfInBounds_toArray, List.set_cons_zero, List.set_cons_succ, List.getElem_toArray, List.getElem_cons_succ, List.getElem_cons_zero]
          refine wpAnyH_take (i := 2) (oi := _) (v := .pointer (some ⟨pb, po + k * 4, none⟩)) rfl (by kernel_rfl) (by kernel_rfl) (by kernel_rfl) (fun _ _ _ h => h) (Or.inl ⟨by rfl, fun w9 hS => ?_⟩) hHeld ?_
          · obtain ⟨s1, s2, s3⟩ := hS
            go_simp
          try simp only [Act.put, List.setIfInBounds_toArray, List.set_cons_zero, List.set_cons_succ, List.getElem_toArray, List.getElem_cons_succ, List.getElem_cons_zero]
          refine wpAnyH_take (i := 3) (oi := _) (v := .pointer (some ⟨pb, po + k * 4, none⟩)) rfl (by kernel_rfl) (by kernel_rfl) (by kernel_rfl) (fun _ _ _ h => h) (Or.inl ⟨by rfl, fun w9 hS => ?_⟩) hHeld ?_
          · obtain ⟨s1, s2, s3⟩ := hS
            go_simp
          try simp only [Act.put, List.setIfInBounds_toArray, List.set_cons_zero, List.set_cons_succ, List.getElem_toArray, List.getElem_cons_succ, List.getElem_cons_zero]
          refine wpAnyH_take (i := 4) (oi := _) (v := .string (idS p.p.id)) rfl (by kernel_rfl) (by kernel_rfl) (by kernel_rfl) (fun _ _ _ h => h) (Or.inl ⟨by rfl, fun w9 hS => ?_⟩) hHeld ?_
          · obtain ⟨s1, s2, s3⟩ := hS
            go_simp
          try simp only [Act.put, List.setIfInBounds_toArray, List.set_cons_zero, List.set_cons_succ, List.getElem_toArray, List.getElem_cons_succ, List.getElem_cons_zero]
          refine wpAnyH_take (i := 5) (oi := _) (v := .slice (some ⟨rb, ro, none⟩) ys.length c2) rfl (by kernel_rfl) (by kernel_rfl) (by kernel_rfl) (fun _ _ _ h => h) (Or.inl ⟨by rfl, fun w9 hS => ?_⟩) hHeld ?_
          · obtain ⟨s1, s2, s3⟩ := hS
            go_simp
          try simp only [Act.put, List.setIfInBounds_toArray, List.set_cons_zero, List.set_cons_succ, List.getElem_toArray, List.getElem_cons_succ, List.getElem_cons_zero]
          refine wpAnyH_take (i := 6) (oi := _) (v := .int .i64 (k : Int)) rfl (by kernel_rfl) (by kernel_rfl) (by kernel_rfl) (fun _ _ _ h => h) (Or.inl ⟨by rfl, fun w9 hS => ?_⟩) hHeld ?_
          · obtain ⟨s1, s2, s3⟩ := hS
            go_simp
          try simp only [Act.put, List.setIfInBounds_toArray, List.set_cons_zero, List.set_cons_succ, List.getElem_toArray, List.getElem_cons_succ, List.getElem_cons_zero]
          refine wpAnyH_take (i := 7) (oi := _) (v := .pointer (some ⟨rb, ro + k, none⟩)) rfl (by kernel_rfl) (by kernel_rfl) (by kernel_rfl) (fun _ _ _ h => h) (Or.inl ⟨by rfl, fun w9 hS => ?_⟩) hHeld ?_
          · obtain ⟨s1, s2, s3⟩ := hS
            go_simp
          try simp only [Act.put, List.setIfInBounds_toArray, List.set_cons_zero, List.set_cons_succ, List.getElem_toArray, List.getElem_cons_succ, List.getElem_cons_zero]
          refine wpAnyH_take (i := 8) (oi := _) (v := .slice x.A x.l.length x.c) rfl (by kernel_rfl) (by kernel_rfl) (by kernel_rfl) (fun _ _ _ h => h) (Or.inl ⟨by rfl, fun w9 hS => ?_⟩) hHeld ?_
          · obtain ⟨s1, s2, s3⟩ := hS
            go_simp
          try simp only [Act.put, List.setIfInBounds_toArray, List.set_cons_zero, List.set_cons_succ, List.getElem_toArray, List.getElem_cons_succ, List.getElem_cons_zero]
          refine wpAnyH_ready (rs := [9]) (by kernel_rfl) (by simp) (AllReadyH.cons (o := _) rfl (fun K hK => ?_) AllReadyH.nil)
          go_simp
          refine (HS.out).mono ?_
          rintro e w7 ⟨l7, hl7, rfl, hb7⟩
          have hb67 := hbel.next (((Below.refl _ _).drew).trans hb7)
          obtain ⟨z1, z2, z3⟩ := HQ.out w7 hb67
          have HH := HK.out w7 hb67
          have d3 : (idS p.p.id).toList = l7 := by rw [HI.out l7 hl7.out, ByteArray.toList_eq]
          refine hK.out _ _ ⟨z1, z2, z3⟩ (fun hHeld => ?_)
          clear hK K
          try simp only [Act.put, List.setIfInBounds_toArray, List.set_cons_zero, List.set_cons_succ, List.getElem_toArray, List.getElem_cons_succ, List.getElem_cons_zero]
          refine wpAnyH_take (i := 10) (oi := _) (v := .bool false) rfl (by kernel_rfl) (by kernel_rfl) (by kernel_rfl) (fun _ _ _ h => h) (Or.inl ⟨by rfl, fun w9 hS => ?_⟩) hHeld ?_
          · obtain ⟨s1, s2, s3⟩ := hS
            go_simp <;> exact d3
          try simp only [Act.put, List.setIfInBounds_toArray, List.set_cons_zero, List.set_cons_succ, List.getElem_toArray, List.getElem_cons_succ, List.getElem_cons_zero]
          refine wpAnyH_take (i := 11) (oi := _) (v := .bool false) rfl (by kernel_rfl) (by kernel_rfl) (by kernel_rfl) (fun _ _ _ h => h) (Or.inl ⟨by rfl, fun w9 hS => ?_⟩) hHeld ?_
          · obtain ⟨s1, s2, s3⟩ := hS
            go_simp
          try simp only [Act.put, List.setIfInBounds_toArray, List.set_cons_zero, List.set_cons_succ, List.getElem_toArray, List.getElem_cons_succ, List.getElem_cons_zero]
          refine wpAnyH_take (i := 12) (oi := _) (v := .int .i64 (k : Int)) rfl (by kernel_rfl) (by kernel_rfl) (by kernel_rfl) (fun _ _ _ h => h) (Or.inl ⟨by rfl, fun w9 hS => ?_⟩) hHeld ?_
          · obtain ⟨s1, s2, s3⟩ := hS
            go_simp
          try simp only [Act.put, List.setIfInBounds_toArray, List.set_cons_zero, List.set_cons_succ, List.getElem_toArray, List.getElem_cons_succ, List.getElem_cons_zero]
          refine wpAnyH_take (i := 13) (oi := _) (v := .bool false) rfl (by kernel_rfl) (by kernel_rfl) (by kernel_rfl) (fun _ _ _ h => h) (Or.inl ⟨by rfl, fun w9 hS => ?_⟩) hHeld ?_
          · obtain ⟨s1, s2, s3⟩ := hS
            go_simp <;> (have := H0.out; omega)
          try simp only [Act.put, List.setIfInBounds_toArray, List.set_cons_zero, List.set_cons_succ, List.getElem_toArray, List.getElem_cons_succ, List.getElem_cons_zero]
          refine wpAnyH_take (i := 14) (oi := _) (v := .bool false) rfl (by kernel_rfl) (by kernel_rfl) (by kernel_rfl) (fun _ _ _ h => h) (Or.inl ⟨by rfl, fun w9 hS => ?_⟩) hHeld ?_
          · obtain ⟨s1, s2, s3⟩ := hS
            go_simp
          try simp only [Act.put, List.setIfInBounds_toArray, List.set_cons_zero, List.set_cons_succ, List.getElem_toArray, List.getElem_cons_succ, List.getElem_cons_zero]
          refine wpAnyH_take (i := 15) (oi := _) (v := undef) rfl (by kernel_rfl) (by kernel_rfl) (by kernel_rfl) (fun _ _ _ h => h) (Or.inr ⟨by rfl, rfl⟩) hHeld ?_
          try simp only [Act.put, List.setIfInBounds_toArray, List.set_cons_zero, List.set_cons_succ, List.getElem_toArray, List.getElem_cons_succ, List.getElem_cons_zero]
          refine wpAnyH_take (i := 16) (oi := _) (v := undef) rfl (by kernel_rfl) (by kernel_rfl) (by kernel_rfl) (fun _ _ _ h => h) (Or.inr ⟨by rfl, rfl⟩) hHeld ?_
          try simp only [Act.put, List.setIfInBounds_toArray, List.set_cons_zero, List.set_cons_succ, List.getElem_toArray, List.getElem_cons_succ, List.getElem_cons_zero]
          refine wpAnyH_take (i := 17) (oi := _) (v := undef) rfl (by kernel_rfl) (by kernel_rfl) (by kernel_rfl) (fun _ _ _ h => h) (Or.inr ⟨by rfl, rfl⟩) hHeld ?_
          try simp only [Act.put, List.setIfInBounds_toArray, List.set_cons_zero, List.set_cons_succ, List.getElem_toArray, List.getElem_cons_succ, List.getElem_cons_zero]
          refine wpAnyH_take (i := 18) (oi := _) (v := undef) rfl (by kernel_rfl) (by kernel_rfl) (by kernel_rfl) (fun _ _ _ h => h) (Or.inr ⟨by rfl, rfl⟩) hHeld ?_
          try simp only [Act.put, List.setIfInBounds_toArray, List.set_cons_zero, List.set_cons_succ, List.getElem_toArray, List.getElem_cons_succ, List.getElem_cons_zero]
          refine wpAnyH_take (i := 19) (oi := _) (v := undef) rfl (by kernel_rfl) (by kernel_rfl) (by kernel_rfl) (fun _ _ _ h => h) (Or.inr ⟨by rfl, rfl⟩) hHeld ?_
          try simp only [Act.put, List.setIfInBounds_toArray, List.set_cons_zero, List.set_cons_succ, List.getElem_toArray, List.getElem_cons_succ, List.getElem_cons_zero]
          refine wpAnyH_take (i := 20) (oi := _) (v := undef) rfl (by kernel_rfl) (by kernel_rfl) (by kernel_rfl) (fun _ _ _ h => h) (Or.inr ⟨by rfl, rfl⟩) hHeld ?_
          try simp only [Act.put, List.setIfInBounds_toArray, List.set_cons_zero, List.set_cons_succ, List.getElem_toArray, List.getElem_cons_succ, List.getElem_cons_zero]
          refine wpAnyH_take (i := 21) (oi := _) (v := undef) rfl (by kernel_rfl) (by kernel_rfl) (by kernel_rfl) (fun _ _ _ h => h) (Or.inr ⟨by rfl, rfl⟩) hHeld ?_
          try simp only [Act.put, List.setIfInBounds_toArray, List.set_cons_zero, List.set_cons_succ, List.getElem_toArray, List.getElem_cons_succ, List.getElem_cons_zero]
          refine wpAnyH_take (i := 22) (oi := _) (v := undef) rfl (by kernel_rfl) (by kernel_rfl) (by kernel_rfl) (fun _ _ _ h => h) (Or.inr ⟨by rfl, rfl⟩) hHeld ?_
          try simp only [Act.put, List.setIfInBounds_toArray, List.set_cons_zero, List.set_cons_succ, List.getElem_toArray, List.getElem_cons_succ, List.getElem_cons_zero]
          refine wpAnyH_take (i := 23) (oi := _) (v := undef) rfl (by kernel_rfl) (by kernel_rfl) (by kernel_rfl) (fun _ _ _ h => h) (Or.inr ⟨by rfl, rfl⟩) hHeld ?_
          try simp only [Act.put, List.setIfInBounds_toArray, List.set_cons_zero, List.set_cons_succ, List.getElem_toArray, List.getElem_cons_succ, List.getElem_cons_zero]
          refine wpAnyH_take (i := 24) (oi := _) (v := undef) rfl (by kernel_rfl) (by kernel_rfl) (by kernel_rfl) (fun _ _ _ h => h) (Or.inr ⟨by rfl, rfl⟩) hHeld ?_
          try simp only [Act.put, List.setIfInBounds_toArray, List.set_cons_zero, List.set_cons_succ, List.getElem_toArray, List.getElem_cons_succ, List.getElem_cons_zero]
          refine wpAnyH_take (i := 25) (oi := _) (v := .bool false) rfl (by kernel_rfl) (by kernel_rfl) (by kernel_rfl) (fun _ _ _ h => h) (Or.inl ⟨by rfl, fun w9 hS => ?_⟩) hHeld ?_
          · obtain ⟨s1, s2, s3⟩ := hS
            go_simp
          try simp only [Act.put, List.setIfInBounds_toArray, List.set_cons_zero, List.set_cons_succ, List.getElem_toArray, List.getElem_cons_succ, List.getElem_cons_zero]
          refine wpAnyH_take (i := 26) (oi := _) (v := .bool false) rfl (by kernel_rfl) (by kernel_rfl) (by kernel_rfl) (fun _ _ _ h => h) (Or.inl ⟨by rfl, fun w9 hS => ?_⟩) hHeld ?_
          · obtain ⟨s1, s2, s3⟩ := hS
            go_simp
          try simp only [Act.put, List.setIfInBounds_toArray, List.set_cons_zero, List.set_cons_succ, List.getElem_toArray, List.getElem_cons_succ, List.getElem_cons_zero]
          refine wpAnyH_take (i := 27) (oi := _) (v := .bool false) rfl (by kernel_rfl) (by kernel_rfl) (by kernel_rfl) (fun _ _ _ h => h) (Or.inl ⟨by rfl, fun w9 hS => ?_⟩) hHeld ?_
          · obtain ⟨s1, s2, s3⟩ := hS
            go_simp
          try simp only [Act.put, List.setIfInBounds_toArray, List.set_cons_zero, List.set_cons_succ, List.getElem_toArray, List.getElem_cons_succ, List.getElem_cons_zero]
          refine wpAnyH_take (i := 28) (oi := _) (v := .pointer (some ⟨g, 0, none⟩)) rfl (by kernel_rfl) (by kernel_rfl) (by kernel_rfl) (fun _ _ _ h => h) (Or.inl ⟨by rfl, fun w9 hS => ?_⟩) hHeld ?_
          · obtain ⟨s1, s2, s3⟩ := hS
            go_simp
          try simp only [Act.put, List.setIfInBounds_toArray, List.set_cons_zero, List.set_cons_succ, List.getElem_toArray, List.getElem_cons_succ, List.getElem_cons_zero]
          refine wpAnyH_take (i := 29) (oi := _) (v := .slice (some ⟨ib, io, none⟩) ps.length ci) rfl (by kernel_rfl) (by kernel_rfl) (by kernel_rfl) (fun _ _ _ h => h) (Or.inl ⟨by rfl, fun w9 hS => ?_⟩) hHeld ?_
          · obtain ⟨s1, s2, s3⟩ := hS
            go_simp
          try simp only [Act.put, List.setIfInBounds_toArray, List.set_cons_zero, List.set_cons_succ, List.getElem_toArray, List.getElem_cons_succ, List.getElem_cons_zero]
          refine wpAnyH_take (i := 30) (oi := _) (v := .int .i64 (k : Int)) rfl (by kernel_rfl) (by kernel_rfl) (by kernel_rfl) (fun _ _ _ h => h) (Or.inl ⟨by rfl, fun w9 hS => ?_⟩) hHeld ?_
          · obtain ⟨s1, s2, s3⟩ := hS
            go_simp
          try simp only [Act.put, List.setIfInBounds_toArray, List.set_cons_zero, List.set_cons_succ, List.getElem_toArray, List.getElem_cons_succ, List.getElem_cons_zero]
          refine wpAnyH_take (i := 31) (oi := _) (v := .pointer (some ⟨ib, io + k, none⟩)) rfl (by kernel_rfl) (by kernel_rfl) (by kernel_rfl) (fun _ _ _ h => h) (Or.inl ⟨by rfl, fun w9 hS => ?_⟩) hHeld ?_
          · obtain ⟨s1, s2, s3⟩ := hS
            go_simp
          try simp only [Act.put, List.setIfInBounds_toArray, List.set_cons_zero, List.set_cons_succ, List.getElem_toArray, List.getElem_cons_succ, List.getElem_cons_zero]
          refine wpAnyH_take (i := 32) (oi := _) (v := .string sk) rfl (by kernel_rfl) (by kernel_rfl) (by kernel_rfl) (fun _ _ _ h => h) (Or.inl ⟨by rfl, fun w9 hS => ?_⟩) hHeld ?_
          · obtain ⟨s1, s2, s3⟩ := hS
            go_simp
          try simp only [Act.put, List.setIfInBounds_toArray, List.set_cons_zero, List.set_cons_succ, List.getElem_toArray, List.getElem_cons_succ, List.getElem_cons_zero]
          refine wpAnyH_ready (rs := [33]) (by kernel_rfl) (by simp) (AllReadyH.cons (o := _) rfl (fun K hK => ?_) AllReadyH.nil)
          go_simp
          refine (HH).mono ?_
          rintro e w8 ⟨rfl, hw8⟩
          obtain rfl := hw8.symm
          refine hK.out _ _ ⟨z1, z2, z3⟩ (fun hHeld => ?_)
          clear hK K
          try simp only [Act.put, List.setIfInBounds_toArray, List.set_cons_zero, List.set_cons_succ, List.getElem_toArray, List.getElem_cons_succ, List.getElem_cons_zero]
          refine wpAnyH_take (i := 34) (oi := _) (v := .bool false) rfl (by kernel_rfl) (by kernel_rfl) (by kernel_rfl) (fun _ _ _ h => h) (Or.inl ⟨by rfl, fun w9 hS => ?_⟩) hHeld ?_
          · obtain ⟨s1, s2, s3⟩ := hS
            go_simp
          try simp only [Act.put, List.setIfInBounds_toArray, List.set_cons_zero, List.set_cons_succ, List.getElem_toArray, List.getElem_cons_succ, List.getElem_cons_zero]
          refine wpAnyH_take (i := 35) (oi := _) (v := .bool false) rfl (by kernel_rfl) (by kernel_rfl) (by kernel_rfl) (fun _ _ _ h => h) (Or.inl ⟨by rfl, fun w9 hS => ?_⟩) hHeld ?_
          · obtain ⟨s1, s2, s3⟩ := hS
            go_simp
          try simp only [Act.put, List.setIfInBounds_toArray, List.set_cons_zero, List.set_cons_succ, List.getElem_toArray, List.getElem_cons_succ, List.getElem_cons_zero]
          refine wpAnyH_done (by kernel_rfl) ?_ _
          go_wp2_with fail
          exact ⟨⟨k + 1, by go_num, by omega, hb67⟩, by simp [intOf]; omega⟩
        · obtain ⟨j, hj⟩ : ∃ j, k = j + 1 := ⟨k - 1, by omega⟩
          obtain ⟨sj, hsj⟩ : ∃ s, (idsL (ptp ps))[j]? = some s := ⟨(idsL (ptp ps))[j]'(by rw [HIL.out]; omega), List.getElem?_eq_getElem (by rw [HIL.out]; omega)⟩
          have hQ' : ∀ W, Below w6.heap.size w6 W → W.cell? ⟨pb, po + k * 4, none⟩ = some (.string (idS p.p.id)) ∧ W.cell? ⟨rb, ro + k, none⟩ = some (.slice x.A x.l.length x.c) ∧ W.cell? ⟨ib, io + k, none⟩ = some (.string sk) ∧ W.cell? ⟨ib, io + j, none⟩ = some (.string sj) := fun W hW =>
            ⟨(hQ W hW).1, (hQ W hW).2.1, (hQ W hW).2.2, (hW.cell (p := ⟨ib, io + j, none⟩) hib).trans (hci j _ (by simp [pc, hsj]))⟩
          have d4 : Op.bytesLess sj.toList sk.toList = true := ids_rise HND.out hsj (by rw [← hj]; exact hsk)
          obtain ⟨_, _, _, q4⟩ := hQ' wr hbel
          have d2 : decide ((k : Int) > 0) = true := decide_eq_true (by omega)
          have d2' : (k : Int) > 0 := by omega
          have f2 : IntKind.i64.wrap ((k : Int) - 1) = (j : Int) := by rw [IntWalk.i64_in _ (by omega)]; omega
          have hj0 : (0 : Int) ≤ (j : Int) := by omega
          have hjp : (j : Int) < (ps.length : Int) := by omega
          have HQ := Lib.hid hQ'
          have H0 := Lib.hid h0
          clear h0 hQ' hQ hcr hcp hci hx hp hsk hsj hpid hfound x1 hpl hpk6 hrd2 hrd5 hrdi hrw6 hj
          go_wp2_with fail
          refine wp_region_held_drew (S := fun W => W.cell? ⟨pb, po + k * 4, none⟩ = some (.string (idS p.p.id)) ∧ W.cell? ⟨rb, ro + k, none⟩ = some (.slice x.A x.l.length x.c) ∧ W.cell? ⟨ib, io + k, none⟩ = some (.string sk) ∧ W.cell? ⟨ib, io + j, none⟩ = some (.string sj)) (by kernel_rfl) (⟨q1, q2, q3, q4⟩) (fun hHeld => ?_)
          refine wpAnyH_take (i := 0) (oi := _) (v := .slice (some ⟨pb, po, none⟩) ps.length c5) rfl (by kernel_rfl) (by kernel_rfl) (by kernel_rfl) (fun _ _ _ h => h) (Or.inl ⟨by rfl, fun w9 hS => ?_⟩) hHeld ?_
          · obtain ⟨s1, s2, s3, s4⟩ := hS
            go_simp
          try simp only [Act.put, List.setIfInBounds_toArray, List.set_cons_zero, List.set_cons_succ, List.getElem_toArray, List.getElem_cons_zero]
          refine wpAnyH_take (i := 1) (oi := _) (v := .int .i64 (k : Int)) rfl (by kernel_rfl) (by kernel_rfl) (by kernel_rfl) (fun _ _ _ h => h) (Or.inl ⟨by rfl, fun w9 hS => ?_⟩) hHeld ?_
          · obtain ⟨s1, s2, s3, s4⟩ := hS
            go_simp
          try simp only [Act.put, List.setIfInBounds_toArray, List.set_cons_zero, List.set_cons_succ, List.getElem_toArray, List.getElem_cons_succ, List.getElem_cons_zero]
          refine wpAnyH_take (i := 2) (oi := _) (v := .pointer (some ⟨pb, po + k * 4, none⟩)) rfl (by kernel_rfl) (by kernel_rfl) (by kernel_rfl) (fun _ _ _ h => h) (Or.inl ⟨by rfl, fun w9 hS => ?_⟩) hHeld ?_
          · obtain ⟨s1, s2, s3, s4⟩ := hS
            go_simp
          try simp only [Act.put, List.setIfInBounds_toArray, List.set_cons_zero, List.set_cons_succ, List.getElem_toArray, List.getElem_cons_succ, List.getElem_cons_zero]
          refine wpAnyH_take (i := 3) (oi := _) (v := .pointer (some ⟨pb, po + k * 4, none⟩)) rfl (by kernel_rfl) (by kernel_rfl) (by kernel_rfl) (fun _ _ _ h => h) (Or.inl ⟨by rfl, fun w9 hS => ?_⟩) hHeld ?_
          · obtain ⟨s1, s2, s3, s4⟩ := hS
            go_simp
          try simp only [Act.put, List.setIfInBounds_toArray, List.set_cons_zero, List.set_cons_succ, List.getElem_toArray, List.getElem_cons_succ, List.getElem_cons_zero]
          refine wpAnyH_take (i := 4) (oi := _) (v := .string (idS p.p.id)) rfl (by kernel_rfl) (by kernel_rfl) (by kernel_rfl) (fun _ _ _ h => h) (Or.inl ⟨by rfl, fun w9 hS => ?_⟩) hHeld ?_
          · obtain ⟨s1, s2, s3, s4⟩ := hS
            go_simp
          try simp only [Act.put, List.setIfInBounds_toArray, List.set_cons_zero, List.set_cons_succ, List.getElem_toArray, List.getElem_cons_succ, List.getElem_cons_zero]
          refine wpAnyH_take (i := 5) (oi := _) (v := .slice (some ⟨rb, ro, none⟩) ys.length c2) rfl (by kernel_rfl) (by kernel_rfl) (by kernel_rfl) (fun _ _ _ h => h) (Or.inl ⟨by rfl, fun w9 hS => ?_⟩) hHeld ?_
          · obtain ⟨s1, s2, s3, s4⟩ := hS
            go_simp
          try simp only [Act.put, List.setIfInBounds_toArray, List.set_cons_zero, List.set_cons_succ, List.getElem_toArray, List.getElem_cons_succ, List.getElem_cons_zero]
          refine wpAnyH_take (i := 6) (oi := _) (v := .int .i64 (k : Int)) rfl (by kernel_rfl) (by kernel_rfl) (by kernel_rfl) (fun _ _ _ h => h) (Or.inl ⟨by rfl, fun w9 hS => ?_⟩) hHeld ?_
          · obtain ⟨s1, s2, s3, s4⟩ := hS
            go_simp
          try simp only [Act.put, List.setIfInBounds_toArray, List.set_cons_zero, List.set_cons_succ, List.getElem_toArray, List.getElem_cons_succ, List.getElem_cons_zero]
          refine wpAnyH_take (i := 7) (oi := _) (v := .pointer (some ⟨rb, ro + k, none⟩)) rfl (by kernel_rfl) (by kernel_rfl) (by kernel_rfl) (fun _ _ _ h => h) (Or.inl ⟨by rfl, fun w9 hS => ?_⟩) hHeld ?_
          · obtain ⟨s1, s2, s3, s4⟩ := hS
            go_simp
          try simp only [Act.put, List.setIfInBounds_toArray, List.set_cons_zero, List.set_cons_succ, List.getElem_toArray, List.getElem_cons_succ, List.getElem_cons_zero]
          refine wpAnyH_take (i := 8) (oi := _) (v := .slice x.A x.l.length x.c) rfl (by kernel_rfl) (by kernel_rfl) (by kernel_rfl) (fun _ _ _ h => h) (Or.inl ⟨by rfl, fun w9 hS => ?_⟩) hHeld ?_
          · obtain ⟨s1, s2, s3, s4⟩ := hS
            go_simp
          try simp only [Act.put, List.setIfInBounds_toArray, List.set_cons_zero, List.set_cons_succ, List.getElem_toArray, List.getElem_cons_succ, List.getElem_cons_zero]
          refine wpAnyH_ready (rs := [9]) (by kernel_rfl) (by simp) (AllReadyH.cons (o := _) rfl (fun K hK => ?_) AllReadyH.nil)
          go_simp
          refine (HS.out).mono ?_
          rintro e w7 ⟨l7, hl7, rfl, hb7⟩
          have hb67 := hbel.next (((Below.refl _ _).drew).trans hb7)
          obtain ⟨z1, z2, z3, z4⟩ := HQ.out w7 hb67
          have HH := HK.out w7 hb67
          have d3 : (idS p.p.id).toList = l7 := by rw [HI.out l7 hl7.out, ByteArray.toList_eq]
          refine hK.out _ _ ⟨z1, z2, z3, z4⟩ (fun hHeld => ?_)
          clear hK K
          try simp only [Act.put, List.setIfInBounds_toArray, List.set_cons_zero, List.set_cons_succ, List.getElem_toArray, List.getElem_cons_succ, List.getElem_cons_zero]
          refine wpAnyH_take (i := 10) (oi := _) (v := .bool false) rfl (by kernel_rfl) (by kernel_rfl) (by kernel_rfl) (fun _ _ _ h => h) (Or.inl ⟨by rfl, fun w9 hS => ?_⟩) hHeld ?_
          · obtain ⟨s1, s2, s3, s4⟩ := hS
            go_simp <;> exact d3
          try simp only [Act.put, List.setIfInBounds_toArray, List.set_cons_zero, List.set_cons_succ, List.getElem_toArray, List.getElem_cons_succ, List.getElem_cons_zero]
          refine wpAnyH_take (i := 11) (oi := _) (v := .bool false) rfl (by kernel_rfl) (by kernel_rfl) (by kernel_rfl) (fun _ _ _ h => h) (Or.inl ⟨by rfl, fun w9 hS => ?_⟩) hHeld ?_
          · obtain ⟨s1, s2, s3, s4⟩ := hS
            go_simp
          try simp only [Act.put, List.setIfInBounds_toArray, List.set_cons_zero, List.set_cons_succ, List.getElem_toArray, List.getElem_cons_succ, List.getElem_cons_zero]
          refine wpAnyH_take (i := 12) (oi := _) (v := .int .i64 (k : Int)) rfl (by kernel_rfl) (by kernel_rfl) (by kernel_rfl) (fun _ _ _ h => h) (Or.inl ⟨by rfl, fun w9 hS => ?_⟩) hHeld ?_
          · obtain ⟨s1, s2, s3, s4⟩ := hS
            go_simp
          try simp only [Act.put, List.setIfInBounds_toArray, List.set_cons_zero, List.set_cons_succ, List.getElem_toArray, List.getElem_cons_succ, List.getElem_cons_zero]
          refine wpAnyH_take (i := 13) (oi := _) (v := .bool true) rfl (by kernel_rfl) (by kernel_rfl) (by kernel_rfl) (fun _ _ _ h => h) (Or.inl ⟨by rfl, fun w9 hS => ?_⟩) hHeld ?_
          · obtain ⟨s1, s2, s3, s4⟩ := hS
            go_simp <;> (have := H0.out; omega)
          try simp only [Act.put, List.setIfInBounds_toArray, List.set_cons_zero, List.set_cons_succ, List.getElem_toArray, List.getElem_cons_succ, List.getElem_cons_zero]
          refine wpAnyH_take (i := 14) (oi := _) (v := .bool true) rfl (by kernel_rfl) (by kernel_rfl) (by kernel_rfl) (fun _ _ _ h => h) (Or.inl ⟨by rfl, fun w9 hS => ?_⟩) hHeld ?_
          · obtain ⟨s1, s2, s3, s4⟩ := hS
            go_simp
          try simp only [Act.put, List.setIfInBounds_toArray, List.set_cons_zero, List.set_cons_succ, List.getElem_toArray, List.getElem_cons_succ, List.getElem_cons_zero]
          refine wpAnyH_take (i := 15) (oi := _) (v := .slice (some ⟨ib, io, none⟩) ps.length ci) rfl (by kernel_rfl) (by kernel_rfl) (by kernel_rfl) (fun _ _ _ h => h) (Or.inl ⟨by rfl, fun w9 hS => ?_⟩) hHeld ?_
          · obtain ⟨s1, s2, s3, s4⟩ := hS
            go_simp
          try simp only [Act.put, List.setIfInBounds_toArray, List.set_cons_zero, List.set_cons_succ, List.getElem_toArray, List.getElem_cons_succ, List.getElem_cons_zero]
          refine wpAnyH_take (i := 16) (oi := _) (v := .int .i64 (k : Int)) rfl (by kernel_rfl) (by kernel_rfl) (by kernel_rfl) (fun _ _ _ h => h) (Or.inl ⟨by rfl, fun w9 hS => ?_⟩) hHeld ?_
          · obtain ⟨s1, s2, s3, s4⟩ := hS
            go_simp
          try simp only [Act.put, List.setIfInBounds_toArray, List.set_cons_zero, List.set_cons_succ, List.getElem_toArray, List.getElem_cons_succ, List.getElem_cons_zero]
          refine wpAnyH_take (i := 17) (oi := _) (v := .int .i64 (j : Int)) rfl (by kernel_rfl) (by kernel_rfl) (by kernel_rfl) (fun _ _ _ h => h) (Or.inl ⟨by rfl, fun w9 hS => ?_⟩) hHeld ?_
          · obtain ⟨s1, s2, s3, s4⟩ := hS
            go_simp
          try simp only [Act.put, List.setIfInBounds_toArray, List.set_cons_zero, List.set_cons_succ, List.getElem_toArray, List.getElem_cons_succ, List.getElem_cons_zero]
          refine wpAnyH_take (i := 18) (oi := _) (v := .pointer (some ⟨ib, io + j, none⟩)) rfl (by kernel_rfl) (by kernel_rfl) (by kernel_rfl) (fun _ _ _ h => h) (Or.inl ⟨by rfl, fun w9 hS => ?_⟩) hHeld ?_
          · obtain ⟨s1, s2, s3, s4⟩ := hS
            go_simp
          try simp only [Act.put, List.setIfInBounds_toArray, List.set_cons_zero, List.set_cons_succ, List.getElem_toArray, List.getElem_cons_succ, List.getElem_cons_zero]
          refine wpAnyH_take (i := 19) (oi := _) (v := .string sj) rfl (by kernel_rfl) (by kernel_rfl) (by kernel_rfl) (fun _ _ _ h => h) (Or.inl ⟨by rfl, fun w9 hS => ?_⟩) hHeld ?_
          · obtain ⟨s1, s2, s3, s4⟩ := hS
            go_simp
          try simp only [Act.put, List.setIfInBounds_toArray, List.set_cons_zero, List.set_cons_succ, List.getElem_toArray, List.getElem_cons_succ, List.getElem_cons_zero]
          refine wpAnyH_take (i := 20) (oi := _) (v := .slice (some ⟨ib, io, none⟩) ps.length ci) rfl (by kernel_rfl) (by kernel_rfl) (by kernel_rfl) (fun _ _ _ h => h) (Or.inl ⟨by rfl, fun w9 hS => ?_⟩) hHeld ?_
          · obtain ⟨s1, s2, s3, s4⟩ := hS
            go_simp
          try simp only [Act.put, List.setIfInBounds_toArray, List.set_cons_zero, List.set_cons_succ, List.getElem_toArray, List.getElem_cons_succ, List.getElem_cons_zero]
          refine wpAnyH_take (i := 21) (oi := _) (v := .int .i64 (k : Int)) rfl (by kernel_rfl) (by kernel_rfl) (by kernel_rfl) (fun _ _ _ h => h) (Or.inl ⟨by rfl, fun w9 hS => ?_⟩) hHeld ?_
          · obtain ⟨s1, s2, s3, s4⟩ := hS
            go_simp
          try simp only [Act.put, List.setIfInBounds_toArray, List.set_cons_zero, List.set_cons_succ, List.getElem_toArray, List.getElem_cons_succ, List.getElem_cons_zero]
          refine wpAnyH_take (i := 22) (oi := _) (v := .pointer (some ⟨ib, io + k, none⟩)) rfl (by kernel_rfl) (by kernel_rfl) (by kernel_rfl) (fun _ _ _ h => h) (Or.inl ⟨by rfl, fun w9 hS => ?_⟩) hHeld ?_
          · obtain ⟨s1, s2, s3, s4⟩ := hS
            go_simp
          try simp only [Act.put, List.setIfInBounds_toArray, List.set_cons_zero, List.set_cons_succ, List.getElem_toArray, List.getElem_cons_succ, List.getElem_cons_zero]
          refine wpAnyH_take (i := 23) (oi := _) (v := .string sk) rfl (by kernel_rfl) (by kernel_rfl) (by kernel_rfl) (fun _ _ _ h => h) (Or.inl ⟨by rfl, fun w9 hS => ?_⟩) hHeld ?_
          · obtain ⟨s1, s2, s3, s4⟩ := hS
            go_simp
          try simp only [Act.put, List.setIfInBounds_toArray, List.set_cons_zero, List.set_cons_succ, List.getElem_toArray, List.getElem_cons_succ, List.getElem_cons_zero]
          refine wpAnyH_take (i := 24) (oi := _) (v := .bool false) rfl (by kernel_rfl) (by kernel_rfl) (by kernel_rfl) (fun _ _ _ h => h) (Or.inl ⟨by rfl, fun w9 hS => ?_⟩) hHeld ?_
          · obtain ⟨s1, s2, s3, s4⟩ := hS
            go_simp
          try simp only [Act.put, List.setIfInBounds_toArray, List.set_cons_zero, List.set_cons_succ, List.getElem_toArray, List.getElem_cons_succ, List.getElem_cons_zero]
          refine wpAnyH_take (i := 25) (oi := _) (v := .bool false) rfl (by kernel_rfl) (by kernel_rfl) (by kernel_rfl) (fun _ _ _ h => h) (Or.inl ⟨by rfl, fun w9 hS => ?_⟩) hHeld ?_
          · obtain ⟨s1, s2, s3, s4⟩ := hS
            go_simp
          try simp only [Act.put, List.setIfInBounds_toArray, List.set_cons_zero, List.set_cons_succ, List.getElem_toArray, List.getElem_cons_succ, List.getElem_cons_zero]
          refine wpAnyH_take (i := 26) (oi := _) (v := .bool false) rfl (by kernel_rfl) (by kernel_rfl) (by kernel_rfl) (fun _ _ _ h => h) (Or.inl ⟨by rfl, fun w9 hS => ?_⟩) hHeld ?_
          · obtain ⟨s1, s2, s3, s4⟩ := hS
            go_simp
          try simp only [Act.put, List.setIfInBounds_toArray, List.set_cons_zero, List.set_cons_succ, List.getElem_toArray, List.getElem_cons_succ, List.getElem_cons_zero]
          refine wpAnyH_take (i := 27) (oi := _) (v := .bool false) rfl (by kernel_rfl) (by kernel_rfl) (by kernel_rfl) (fun _ _ _ h => h) (Or.inl ⟨by rfl, fun w9 hS => ?_⟩) hHeld ?_
          · obtain ⟨s1, s2, s3, s4⟩ := hS
            go_simp
          try simp only [Act.put, List.setIfInBounds_toArray, List.set_cons_zero, List.set_cons_succ, List.getElem_toArray, List.getElem_cons_succ, List.getElem_cons_zero]
          refine wpAnyH_take (i := 28) (oi := _) (v := .pointer (some ⟨g, 0, none⟩)) rfl (by kernel_rfl) (by kernel_rfl) (by kernel_rfl) (fun _ _ _ h => h) (Or.inl ⟨by rfl, fun w9 hS => ?_⟩) hHeld ?_
          · obtain ⟨s1, s2, s3, s4⟩ := hS
            go_simp
          try simp only [Act.put, List.setIfInBounds_toArray, List.set_cons_zero, List.set_cons_succ, List.getElem_toArray, List.getElem_cons_succ, List.getElem_cons_zero]
          refine wpAnyH_take (i := 29) (oi := _) (v := .slice (some ⟨ib, io, none⟩) ps.length ci) rfl (by kernel_rfl) (by kernel_rfl) (by kernel_rfl) (fun _ _ _ h => h) (Or.inl ⟨by rfl, fun w9 hS => ?_⟩) hHeld ?_
          · obtain ⟨s1, s2, s3, s4⟩ := hS
            go_simp
          try simp only [Act.put, List.setIfInBounds_toArray, List.set_cons_zero, List.set_cons_succ, List.getElem_toArray, List.getElem_cons_succ, List.getElem_cons_zero]
          refine wpAnyH_take (i := 30) (oi := _) (v := .int .i64 (k : Int)) rfl (by kernel_rfl) (by kernel_rfl) (by kernel_rfl) (fun _ _ _ h => h) (Or.inl ⟨by rfl, fun w9 hS => ?_⟩) hHeld ?_
          · obtain ⟨s1, s2, s3, s4⟩ := hS
            go_simp
          try simp only [Act.put, List.setIfInBounds_toArray, List.set_cons_zero, List.set_cons_succ, List.getElem_toArray, List.getElem_cons_succ, List.getElem_cons_zero]
          refine wpAnyH_take (i := 31) (oi := _) (v := .pointer (some ⟨ib, io + k, none⟩)) rfl (by kernel_rfl) (by kernel_rfl) (by kernel_rfl) (fun _ _ _ h => h) (Or.inl ⟨by rfl, fun w9 hS => ?_⟩) hHeld ?_
          · obtain ⟨s1, s2, s3, s4⟩ := hS
            go_simp
          try simp only [Act.put, List.setIfInBounds_toArray, List.set_cons_zero, List.set_cons_succ, List.getElem_toArray, List.getElem_cons_succ, List.getElem_cons_zero]
          refine wpAnyH_take (i := 32) (oi := _) (v := .string sk) rfl (by kernel_rfl) (by kernel_rfl) (by kernel_rfl) (fun _ _ _ h => h) (Or.inl ⟨by rfl, fun w9 hS => ?_⟩) hHeld ?_
          · obtain ⟨s1, s2, s3, s4⟩ := hS
            go_simp
          try simp only [Act.put, List.setIfInBounds_toArray, List.set_cons_zero, List.set_cons_succ, List.getElem_toArray, List.getElem_cons_succ, List.getElem_cons_zero]
          refine wpAnyH_ready (rs := [33]) (by kernel_rfl) (by simp) (AllReadyH.cons (o := _) rfl (fun K hK => ?_) AllReadyH.nil)
          go_simp
          refine (HH).mono ?_
          rintro e w8 ⟨rfl, hw8⟩
          obtain rfl := hw8.symm
          refine hK.out _ _ ⟨z1, z2, z3, z4⟩ (fun hHeld => ?_)
          clear hK K
          try simp only [Act.put, List.setIfInBounds_toArray, List.set_cons_zero, List.set_cons_succ, List.getElem_toArray, List.getElem_cons_succ, List.getElem_cons_zero]
          refine wpAnyH_take (i := 34) (oi := _) (v := .bool false) rfl (by kernel_rfl) (by kernel_rfl) (by kernel_rfl) (fun _ _ _ h => h) (Or.inl ⟨by rfl, fun w9 hS => ?_⟩) hHeld ?_
          · obtain ⟨s1, s2, s3, s4⟩ := hS
            go_simp
          try simp only [Act.put, List.setIfInBounds_toArray, List.set_cons_zero, List.set_cons_succ, List.getElem_toArray, List.getElem_cons_succ, List.getElem_cons_zero]
          refine wpAnyH_take (i := 35) (oi := _) (v := .bool false) rfl (by kernel_rfl) (by kernel_rfl) (by kernel_rfl) (fun _ _ _ h => h) (Or.inl ⟨by rfl, fun w9 hS => ?_⟩) hHeld ?_
          · obtain ⟨s1, s2, s3, s4⟩ := hS
            go_simp
          try simp only [Act.put, List.setIfInBounds_toArray, List.set_cons_zero, List.set_cons_succ, List.getElem_toArray, List.getElem_cons_succ, List.getElem_cons_zero]
          refine wpAnyH_done (by kernel_rfl) ?_ _
          go_wp2_with fail
          exact ⟨⟨k + 1, by go_num, by omega, hb67⟩, by simp [intOf]; omega⟩
      · have d1 : decide ((k : Int) < (ys.length : Int)) = false := decide_eq_false (by omega)
        have d1' : ¬ (k : Int) < (ys.length : Int) := by omega
        clear h1
        go_wp2_with fail
        go_ret
        exact ⟨rfl, hb06.next hbel⟩
end Go.Proofs.YtnaakfnbmeimaaaGreat
