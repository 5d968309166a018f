/- The walk of the law PackBack. Conditions: at most 2^47 objects. -/
import Derived.Test.YtnaakfnbmeimaaaGreatPckAwake
import Derived.Test.YtnaakfnbmeimaaaGreatPackIdsLaw
import Derived.Test.YtnaakfnbmeimaaaGreatOwnSet
import Derived.Deep.DeepCutAuto
namespace Go.Dol
/-- What is a pack ends with the sum of what is ahead. -/
theorem parse_sum {ge : ByteArray → ByteArray → Bool} {b : List UInt8} {ps : List Pt} (h : parseL ge b = some ps) : 36 ≤ b.length ∧ sumOf (b.take (b.length - 32)) = b.drop (b.length - 32) := by
  unfold parseL at h
  split at h
  · cases h
  · rename_i hn
    exact ⟨Decidable.byContradiction fun h1 => hn (.inl (by omega)), Decidable.byContradiction fun h1 => hn (.inr (.inr h1))⟩
theorem build_pos {ge : ByteArray → ByteArray → Bool} {rs : List (List UInt8)} {b : List UInt8} (h : buildL ge rs = some b) : 0 < b.length := by
  unfold buildL at h
  split at h
  · injection h with h
    rw [← h, List.length_append, sumOf_length]
    omega
  · cases h
end Go.Dol
namespace Go.Proofs.YtnaakfnbmeimaaaGreat
open Go.RowKit Go.Dol
set_option linter.unusedVariables false
theorem bits_u8_range (op : BinOp) (a b : Int) : 0 ≤ bits op .u8 a b ∧ bits op .u8 a b < 256 := by
  unfold bits
  rw [IntKind.wrap_u8]
  omega
theorem bc_set {l : List UInt8} {n : Nat} {z : Int} (h0 : 0 ≤ z) (h1 : z < 256) : (bc l).set n (.int .u8 z) = bc (l.set n (UInt8.ofNat z.toNat)) := by
  unfold bc
  rw [List.map_set]
  congr 2
  rw [UInt8.toNat_ofNat']
  omega
theorem get_own {l : List Pt} (hn : (l.map (·.id)).Nodup) {p : Pt} (h : p ∈ l) {s : ByteArray} (hs : s.data.toList = p.id) (h32 : s.size = 32) : getP l s = .ok p.raw := by
  unfold getP
  rw [if_pos h32, hs, look_own hn h]
def BackRel (n : Nat) (w : World) (i : Value) (wr : World) : Prop := ∃ k : Nat, i = .int .i64 k ∧ k ≤ n ∧ Below w.heap.size w wr
set_option maxRecDepth 100000 in
set_option maxHeartbeats 3200000 in
theorem packBack_walk (A : Option Addr) (l : List ObA) (c : Nat) (at' tu : Int) (w : World) (hr : Rd w w.heap.size 10 A l.length (oc l)) (hos : Obs w w.heap.size l) (hl : l.length ≤ 140737488351232) (hat : (Lit.int .i64 at').wf = true) (htu : (Lit.int .u8 tu).wf = true) :
    Calls Tryz.prog 6 #[.slice A l.length c, .int .i64 at', .int .u8 tu] w fun e w' => e = .returned (.bool true) ∧ Below w.heap.size w w' := by
  clear hat htu
  obtain ⟨r1, hr1, hf1⟩ := i64_low at' 65535 (by omega)
  replace hf1 : bits .and .i64 at' 65535 = (r1 : Int) := hf1
  have HA := Lib.hid (awake_calls w)
  go_enter Tryz.func6, Tryz.ntmps6
  go_wp2_with fail
  refine HA.out.mono ?_
  rintro e w1 ⟨rfl, hb1⟩
  have hs1 := hb1.size
  have hR := raws_calls A l c none [] 0 w1 ((hr.below hb1).more hs1) ((hos.below hb1).more hs1) hl Rd.nil Rws.nil (by simp)
  rw [List.map_nil] at hR
  have HR := Lib.hid hR
  clear hR HA
  go_wp2_with fail
  refine HR.out.mono ?_
  rintro e w2 ⟨ys, A2, c2, hys, rfl, ho2, hf2, hb2, hy44⟩
  have hs2 := hb2.size
  have hfew := raws_few hys.out
  have hB := Build_calls A2 ys c2 w2 (Rd.of_own ho2) hf2.rws (by omega) (fun x hx => Nat.le_trans (hfew x hx) (by omega))
  obtain ⟨rs, hrs⟩ : ∃ rs, rs = ys.map (·.l) := ⟨_, rfl⟩
  rw [← hrs] at hB
  have hrl : rs.length = ys.length := by rw [hrs]; simp
  have HRL := Lib.hid hrl
  have HB := Lib.hid hB
  have HRS := Lib.hid hrs
  clear hB hrs hrl HR
  go_wp2_with fail
  refine HB.out.mono ?_
  rintro e w3 ⟨hb3, hm⟩
  clear HB
  have hb03 := (hb1.next hb2).next hb3
  cases hbl : buildL geS rs with
  | none =>
    rw [hbl] at hm
    obtain rfl : e = .returned (.tuple #[.slice none 0 0, .int .i64 1]) := hm
    clear hbl
    go_wp2_with fail
    go_ret
    exact ⟨rfl, hb03⟩
  | some b =>
    rw [hbl] at hm
    obtain ⟨bl, A3, c3, hbl3, rfl, ho3, i1, i2⟩ := hm
    have hrfew : ∀ r ∈ rs, r.length ≤ 2097152 := by
      intro r hr
      rw [HRS.out] at hr
      obtain ⟨x, hx, rfl⟩ := List.mem_map.1 hr
      exact hfew x hx
    have hblen : bl.length ≤ 100000000 := by rw [hbl3.out]; exact build_len hbl hrfew (by rw [HRL.out]; exact hy44)
    have hbpos : 0 < bl.length := by rw [hbl3.out]; exact build_pos hbl
    have hP := Parse_calls A3 bl c3 w3 (Rd.of_own ho3) i1 i2 (by omega)
    rw [show parseL geS bl = some (ptsOf [] 0 rs) by rw [hbl3.out]; exact parse_build obj_few hbl] at hP
    have HP := Lib.hid hP
    have HN := Lib.hid (build_ok hbl).2.2
    obtain ⟨gb, rfl, hgb1, hgb2⟩ := own_at ho3 hbpos
    clear hP hbl hbl3
    go_wp2_with fail
    refine HP.out.mono ?_
    rintro e w4 ⟨hb4, g, ps, A4, c4, m, hps, rfl, hpk⟩
    have hpl : ps.length = ys.length := by
      rw [← HRL.out, ← pts_length rs [] 0, ← hps.out]; simp [ptp]
    have HPL := Lib.hid hpl
    have hgw : w3.heap.size ≤ g := hpk.gb
    have HI := Lib.hid (Ids_calls hpk (by omega))
    have d0 : ((ps.length : Int) != (ys.length : Int)) = false := by simp; omega
    clear hpl HP
    go_wp2_with fail
    refine HI.out.mono ?_
    rintro e w5 ⟨⟨Ai, ci, rfl, hoi⟩, ⟨vi, hpk5⟩, hg5⟩
    clear HI hoi
    have ho24 := own_belowW (own_belowW ho2 hb3) hb4
    have ho25 := own_other ho24 hpk.blk (by decide) hg5
    have ho34 := own_belowW ho3 hb4
    have ho35 := own_other ho34 hpk.blk (by decide) hg5
    have hf4 := (hf2.below hb3).below hb4
    have hs3 := hb3.size
    have hs4 := hb4.size
    have hf5 := hf4.keep hg5 (Other.blk hpk.blk (by decide) (by omega))
    have hb04 := hb03.next hb4
    have hb05 : Below w.heap.size w w5 := hb04.trans (below_of_grown hg5 (by have := hb03.size; omega) hb04.size)
    have hs5 := hb05.size
    have hrd2 := Rd.of_own ho25
    have hrw5 := hf5.rws
    have hid : ptp ps = ptsOf [] 0 rs := hps.out
    have HID := Lib.hid hid
    have hnd : ((ptp ps).map (·.id)).Nodup := by rw [hid, pts_ids]; exact HN.out
    have HND := Lib.hid hnd
    have hpsz : ∀ x ∈ ps, x.p.raw.length ≤ 2097152 := by
      intro x hx
      have h1 : x.p.raw ∈ (ptp ps).map (·.raw) := List.mem_map.2 ⟨x.p, List.mem_map.2 ⟨x, hx, rfl⟩, rfl⟩
      rw [hid, pts_raws] at h1
      exact hrfew _ h1
    have HPZ := Lib.hid hpsz
    have hgbw : w.heap.size ≤ gb := by have := hb03.size; have := (hb1.next hb2).size; omega
    have hg35 : gb < w5.heap.size := by have := hg5.size; omega
    clear hnd hid ho2 ho24 ho25 ho3 ho34 hf2 hf4 hf5 hb4 hpk hps hg5 hs4 hs3 hb04 hb03 hb3 hfew hrfew hb2 hpsz
    go_wp2_with fail
    go_loopw [13] (fun i wr => BackRel ys.length w5 i wr) (fun i _ => ys.length - (intOf i).toNat)
    case atStart => exact ⟨0, rfl, Nat.zero_le _, Below.refl _ _⟩
    case round =>
      obtain ⟨k, rfl, hk, hbel⟩ := hrel
      have f1 : IntKind.i64.wrap ((k : Int) + 1) = (k : Int) + 1 := IntWalk.i64_in _ (by omega)
      by_cases h1 : k < ys.length
      · have d1 : decide ((k : Int) < (ys.length : Int)) = true := decide_eq_true (by omega)
        have d1' : (k : Int) < (ys.length : Int) := by omega
        have hk0 : (0 : Int) ≤ (k : Int) := by omega
        have hpl := HPL.out
        obtain ⟨x, hx⟩ : ∃ x, ys[k]? = some x := ⟨ys[k], List.getElem?_eq_getElem h1⟩
        obtain ⟨p, hp⟩ : ∃ p, ps[k]? = some p := ⟨ps[k]'(by omega), List.getElem?_eq_getElem (by omega)⟩
        obtain ⟨rb, ro, rfl, hrb, hcr⟩ := hrd2.at_ (by omega)
        have hQ : ∀ W, Below w5.heap.size w5 W → W.cell? ⟨rb, ro + k, none⟩ = some (.slice x.A x.l.length x.c) := fun W hW => (hW.cell (p := ⟨rb, ro + k, none⟩) hrb).trans (hcr k _ (rc_get hx))
        have q2 := hQ wr hbel
        obtain ⟨x1, x2, x3⟩ := hrw5 x (List.mem_of_getElem? hx)
        have hpp : (ptp ps)[k]? = some p.p := by simp [ptp, hp]
        have hpid : p.p.id = sumOf x.l := by
          have e1 : ((ptp ps).map (·.id))[k]? = some p.p.id := by rw [List.getElem?_map, hpp]; rfl
          rw [HID.out, pts_ids, HRS.out] at e1
          simpa [hx] using e1.symm
        have hpraw : p.p.raw = x.l := by
          have e1 : ((ptp ps).map (·.raw))[k]? = some p.p.raw := by rw [List.getElem?_map, hpp]; rfl
          rw [HID.out, pts_raws, HRS.out] at e1
          simpa [hx] using e1.symm
        have hget : ∀ l6 : List UInt8, l6 = sumOf x.l → getP (ptp ps) ⟨l6.toArray⟩ = .ok x.l := fun l6 h => by
          rw [← hpraw]
          exact get_own HND.out (List.mem_of_getElem? hpp) (by rw [hpid, h]) (by show l6.toArray.size = 32; rw [List.size_toArray, h, sumOf_length])
        have hxl : x.l.length ≤ 140737488355296 := by
          have h9 := raws_few (os := l.map ObA.o) hys.out x (List.mem_of_getElem? hx)
          omega
        have HS : Hid (Calls Tryz.prog 17 #[.slice x.A x.l.length x.c] wr fun e w' => ∃ l', Hid (l' = sumOf x.l) ∧ e = .returned (.string ⟨l'.toArray⟩) ∧ Below wr.heap.size wr w') :=
          Sum_calls x.A x.l x.c wr ((x1.belowW hbel (Nat.le_refl _)).more hbel.size) hxl
        have HG := Lib.hid hget
        have HQ := Lib.hid hQ
        have HX := Lib.hid x1
        clear hget hQ hcr hx hp hpp hpid hpraw x1 hpl hrd2 hrw5 ho35
        go_wp2_with fail
        refine HS.out.mono ?_
        rintro e w6 ⟨l6, hl6, rfl, hb6⟩
        have hb56 := hbel.next hb6
        have hG := Get_calls (hpk5.below hb56) ⟨l6.toArray⟩ (by show l6.toArray.size ≤ _; rw [List.size_toArray, hl6.out, sumOf_length]; unfold maxLen; omega) (fun x hx => Nat.le_trans (HPZ.out x hx) (by omega))
        rw [HG.out l6 hl6.out] at hG
        have HGG := Lib.hid hG
        clear hG HS
        go_wp2_with fail
        refine HGG.out.mono ?_
        rintro e w7 ⟨hb7, q, A7, c7, hq, rfl, ho7, i7, i8⟩
        have hb57 := hb56.next hb7
        have q7 := HQ.out w7 hb57
        have HSM := Lib.hid (Same_calls A7 q c7 x.A x.l x.c w7 w7.heap.size w7.heap.size (Rd.of_own ho7) ((HX.out.belowW hb57 (Nat.le_refl _)).more hb57.size) hq)
        clear HGG q2 ho7
        go_wp2_with fail
        refine HSM.out.mono ?_
        rintro e w8 ⟨rfl, rfl⟩
        clear HSM
        go_wp2_with fail
        exact ⟨⟨k + 1, by go_num, by omega, hb57⟩, by simp [intOf]; omega⟩
      · have d1 : decide ((k : Int) < (ys.length : Int)) = false := decide_eq_false (by omega)
        have d1' : ¬ (k : Int) < (ys.length : Int) := by omega
        have hpl := HPL.out
        have HPT := Lib.hid (Parts_calls (hpk5.below hbel) (by omega))
        have hor := own_belowW ho35 hbel
        have hb0r := hb05.next hbel
        clear h1 hpk5 hrd2 hrw5 ho35 hpl
        go_wp2_with fail
        refine HPT.out.mono ?_
        rintro e w8 ⟨A8, c8, rfl, ho8, hb8⟩
        have hrd8 := Rd.of_own ho8
        have ho38 := own_belowW hor hb8
        have hb08 := hb0r.next hb8
        have hg38 : gb < w8.heap.size := by have := hbel.size; have := hb8.size; omega
        clear HPT hor hb0r ho8 f1 hb8 hbel
        go_wp2_with fail
        go_loopw [17] (fun i wr => BackRel ps.length w8 i wr) (fun i _ => ps.length - (intOf i).toNat)
        case atStart => exact ⟨0, rfl, Nat.zero_le _, Below.refl _ _⟩
        case round =>
          obtain ⟨j, rfl, hj, hbel8⟩ := hrel
          have hpl := HPL.out
          have f1 : IntKind.i64.wrap ((j : Int) + 1) = (j : Int) + 1 := IntWalk.i64_in _ (by omega)
          by_cases h2 : j < ps.length
          · have d2 : decide ((j : Int) < (ps.length : Int)) = true := decide_eq_true (by omega)
            have d2' : (j : Int) < (ps.length : Int) := by omega
            have hj0 : (0 : Int) ≤ (j : Int) := by omega
            obtain ⟨p, hp⟩ : ∃ p, ps[j]? = some p := ⟨ps[j], List.getElem?_eq_getElem h2⟩
            obtain ⟨pb, po, rfl, hpb, hcp⟩ := hrd8.at_ (by omega)
            obtain ⟨hdp, hdk⟩ : p.p.depth ≤ 7 ∧ (0 < p.p.depth ↔ p.p.kind = 2) := by
              refine pts_depth rs [] 0 (by omega) p.p ?_
              rw [← HID.out]
              exact List.mem_map.2 ⟨p, List.mem_of_getElem? hp, rfl⟩
            have q1 : wr.cell? ⟨pb, po + j * 4 + 1, none⟩ = some (.int .i64 (p.p.kind : Nat)) := (hbel8.cell (p := ⟨pb, po + j * 4 + 1, none⟩) hpb).trans (by have := hcp (j * 4 + 1) _ (ptc_get hp 1 (by omega)); exact this)
            have q2 : wr.cell? ⟨pb, po + j * 4 + 2, none⟩ = some (.int .i64 (p.p.depth : Nat)) := (hbel8.cell (p := ⟨pb, po + j * 4 + 2, none⟩) hpb).trans (by have := hcp (j * 4 + 2) _ (ptc_get hp 2 (by omega)); exact this)
            obtain ⟨dp, hdpe⟩ : ∃ dp, dp = p.p.depth := ⟨_, rfl⟩
            obtain ⟨kd, hkde⟩ : ∃ kd, kd = p.p.kind := ⟨_, rfl⟩
            rw [← hkde] at q1 hdk
            rw [← hdpe] at q2 hdp hdk
            obtain ⟨bb, hb1', hb2', hb3', hb4'⟩ : ∃ bb : Bool, decide ((dp : Int) > 0) = bb ∧ decide ((0 : Int) < (dp : Int)) = bb ∧ decide (0 < dp) = bb ∧ ((kd : Int) == 2) = bb := by
              by_cases h : 0 < dp
              · exact ⟨true, decide_eq_true (by omega), decide_eq_true (by omega), decide_eq_true h, by rw [hdk.1 h]; rfl⟩
              · exact ⟨false, decide_eq_false (by omega), decide_eq_false (by omega), decide_eq_false h, beq_eq_false_iff_ne.2 fun e => h (hdk.2 (by omega))⟩
            have d3 : decide ((dp : Int) < 0) = false := decide_eq_false (by omega)
            have d3' : ¬ ((dp : Int) < 0) := by omega
            have d4 : decide ((dp : Int) ≥ 8) = false := decide_eq_false (by omega)
            have d4' : ¬ ((dp : Int) ≥ 8) := by omega
            have d4b : ¬ ((8 : Int) ≤ (dp : Int)) := by omega
            clear hcp hp hdk hdpe hkde hpl h2 hrd8
            go_wp2_with fail
            refine wp_region_held_drew (S := fun W => W.cell? ⟨pb, po + j * 4 + 1, none⟩ = some (.int .i64 (kd : Int)) ∧ W.cell? ⟨pb, po + j * 4 + 2, none⟩ = some (.int .i64 (dp : Int))) (by kernel_rfl) (⟨q1, q2⟩) (fun hHeld => ?_)
            refine wpAnyH_take (i := 0) (oi := _) (v := .slice (some ⟨pb, po, none⟩) ps.length c8) rfl (by kernel_rfl) (by kernel_rfl) (by kernel_rfl) (fun _ _ _ h => h) (Or.inl ⟨by rfl, fun w9 hS => ?_⟩) hHeld ?_
            · obtain ⟨s1, s2⟩ := hS
              go_simp
            try simp only [Act.put, List.setIfInBounds_toArray, List.set_cons_zero, List.set_cons_succ, List.getElem_toArray, List.getElem_cons_zero]
            refine wpAnyH_take (i := 1) (oi := _) (v := .int .i64 (j : Int)) rfl (by kernel_rfl) (by kernel_rfl) (by kernel_rfl) (fun _ _ _ h => h) (Or.inl ⟨by rfl, fun w9 hS => ?_⟩) hHeld ?_
            · obtain ⟨s1, s2⟩ := hS
              go_simp
            try simp only [Act.put, List.setIfInBounds_toArray, List.set_cons_zero, List.set_cons_succ, List.getElem_toArray, List.getElem_cons_succ, List.getElem_cons_zero]
            refine wpAnyH_take (i := 2) (oi := _) (v := .pointer (some ⟨pb, po + j * 4, none⟩)) rfl (by kernel_rfl) (by kernel_rfl) (by kernel_rfl) (fun _ _ _ h => h) (Or.inl ⟨by rfl, fun w9 hS => ?_⟩) hHeld ?_
            · obtain ⟨s1, s2⟩ := hS
              go_simp
            try simp only [Act.put, List.setIfInBounds_toArray, List.set_cons_zero, List.set_cons_succ, List.getElem_toArray, List.getElem_cons_succ, List.getElem_cons_zero]
            refine wpAnyH_take (i := 3) (oi := _) (v := .pointer (some ⟨pb, po + j * 4 + 2, none⟩)) rfl (by kernel_rfl) (by kernel_rfl) (by kernel_rfl) (fun _ _ _ h => h) (Or.inl ⟨by rfl, fun w9 hS => ?_⟩) hHeld ?_
            · obtain ⟨s1, s2⟩ := hS
              go_simp
            try simp only [Act.put, List.setIfInBounds_toArray, List.set_cons_zero, List.set_cons_succ, List.getElem_toArray, List.getElem_cons_succ, List.getElem_cons_zero]
            refine wpAnyH_take (i := 4) (oi := _) (v := .int .i64 (dp : Int)) rfl (by kernel_rfl) (by kernel_rfl) (by kernel_rfl) (fun _ _ _ h => h) (Or.inl ⟨by rfl, fun w9 hS => ?_⟩) hHeld ?_
            · obtain ⟨s1, s2⟩ := hS
              go_simp
            try simp only [Act.put, List.setIfInBounds_toArray, List.set_cons_zero, List.set_cons_succ, List.getElem_toArray, List.getElem_cons_succ, List.getElem_cons_zero]
            refine wpAnyH_take (i := 5) (oi := _) (v := .bool false) rfl (by kernel_rfl) (by kernel_rfl) (by kernel_rfl) (fun _ _ _ h => h) (Or.inl ⟨by rfl, fun w9 hS => ?_⟩) hHeld ?_
            · obtain ⟨s1, s2⟩ := hS
              go_simp
            try simp only [Act.put, List.setIfInBounds_toArray, List.set_cons_zero, List.set_cons_succ, List.getElem_toArray, List.getElem_cons_succ, List.getElem_cons_zero]
            refine wpAnyH_take (i := 6) (oi := _) (v := .bool false) rfl (by kernel_rfl) (by kernel_rfl) (by kernel_rfl) (fun _ _ _ h => h) (Or.inl ⟨by rfl, fun w9 hS => ?_⟩) hHeld ?_
            · obtain ⟨s1, s2⟩ := hS
              go_simp
            try simp only [Act.put, List.setIfInBounds_toArray, List.set_cons_zero, List.set_cons_succ, List.getElem_toArray, List.getElem_cons_succ, List.getElem_cons_zero]
            refine wpAnyH_take (i := 7) (oi := _) (v := .slice (some ⟨pb, po, none⟩) ps.length c8) rfl (by kernel_rfl) (by kernel_rfl) (by kernel_rfl) (fun _ _ _ h => h) (Or.inl ⟨by rfl, fun w9 hS => ?_⟩) hHeld ?_
            · obtain ⟨s1, s2⟩ := hS
              go_simp
            try simp only [Act.put, List.setIfInBounds_toArray, List.set_cons_zero, List.set_cons_succ, List.getElem_toArray, List.getElem_cons_succ, List.getElem_cons_zero]
            refine wpAnyH_take (i := 8) (oi := _) (v := .int .i64 (j : Int)) rfl (by kernel_rfl) (by kernel_rfl) (by kernel_rfl) (fun _ _ _ h => h) (Or.inl ⟨by rfl, fun w9 hS => ?_⟩) hHeld ?_
            · obtain ⟨s1, s2⟩ := hS
              go_simp
            try simp only [Act.put, List.setIfInBounds_toArray, List.set_cons_zero, List.set_cons_succ, List.getElem_toArray, List.getElem_cons_succ, List.getElem_cons_zero]
            refine wpAnyH_take (i := 9) (oi := _) (v := .pointer (some ⟨pb, po + j * 4, none⟩)) rfl (by kernel_rfl) (by kernel_rfl) (by kernel_rfl) (fun _ _ _ h => h) (Or.inl ⟨by rfl, fun w9 hS => ?_⟩) hHeld ?_
            · obtain ⟨s1, s2⟩ := hS
              go_simp
            try simp only [Act.put, List.setIfInBounds_toArray, List.set_cons_zero, List.set_cons_succ, List.getElem_toArray, List.getElem_cons_succ, List.getElem_cons_zero]
            refine wpAnyH_take (i := 10) (oi := _) (v := .pointer (some ⟨pb, po + j * 4 + 2, none⟩)) rfl (by kernel_rfl) (by kernel_rfl) (by kernel_rfl) (fun _ _ _ h => h) (Or.inl ⟨by rfl, fun w9 hS => ?_⟩) hHeld ?_
            · obtain ⟨s1, s2⟩ := hS
              go_simp
            try simp only [Act.put, List.setIfInBounds_toArray, List.set_cons_zero, List.set_cons_succ, List.getElem_toArray, List.getElem_cons_succ, List.getElem_cons_zero]
            refine wpAnyH_take (i := 11) (oi := _) (v := .int .i64 (dp : Int)) rfl (by kernel_rfl) (by kernel_rfl) (by kernel_rfl) (fun _ _ _ h => h) (Or.inl ⟨by rfl, fun w9 hS => ?_⟩) hHeld ?_
            · obtain ⟨s1, s2⟩ := hS
              go_simp
            try simp only [Act.put, List.setIfInBounds_toArray, List.set_cons_zero, List.set_cons_succ, List.getElem_toArray, List.getElem_cons_succ, List.getElem_cons_zero]
            refine wpAnyH_take (i := 12) (oi := _) (v := .bool false) rfl (by kernel_rfl) (by kernel_rfl) (by kernel_rfl) (fun _ _ _ h => h) (Or.inl ⟨by rfl, fun w9 hS => ?_⟩) hHeld ?_
            · obtain ⟨s1, s2⟩ := hS
              go_simp
            try simp only [Act.put, List.setIfInBounds_toArray, List.set_cons_zero, List.set_cons_succ, List.getElem_toArray, List.getElem_cons_succ, List.getElem_cons_zero]
            refine wpAnyH_take (i := 13) (oi := _) (v := .bool false) rfl (by kernel_rfl) (by kernel_rfl) (by kernel_rfl) (fun _ _ _ h => h) (Or.inl ⟨by rfl, fun w9 hS => ?_⟩) hHeld ?_
            · obtain ⟨s1, s2⟩ := hS
              go_simp
            try simp only [Act.put, List.setIfInBounds_toArray, List.set_cons_zero, List.set_cons_succ, List.getElem_toArray, List.getElem_cons_succ, List.getElem_cons_zero]
            refine wpAnyH_take (i := 14) (oi := _) (v := .bool false) rfl (by kernel_rfl) (by kernel_rfl) (by kernel_rfl) (fun _ _ _ h => h) (Or.inl ⟨by rfl, fun w9 hS => ?_⟩) hHeld ?_
            · obtain ⟨s1, s2⟩ := hS
              go_simp
            try simp only [Act.put, List.setIfInBounds_toArray, List.set_cons_zero, List.set_cons_succ, List.getElem_toArray, List.getElem_cons_succ, List.getElem_cons_zero]
            refine wpAnyH_take (i := 15) (oi := _) (v := .slice (some ⟨pb, po, none⟩) ps.length c8) rfl (by kernel_rfl) (by kernel_rfl) (by kernel_rfl) (fun _ _ _ h => h) (Or.inl ⟨by rfl, fun w9 hS => ?_⟩) hHeld ?_
            · obtain ⟨s1, s2⟩ := hS
              go_simp
            try simp only [Act.put, List.setIfInBounds_toArray, List.set_cons_zero, List.set_cons_succ, List.getElem_toArray, List.getElem_cons_succ, List.getElem_cons_zero]
            refine wpAnyH_take (i := 16) (oi := _) (v := .int .i64 (j : Int)) rfl (by kernel_rfl) (by kernel_rfl) (by kernel_rfl) (fun _ _ _ h => h) (Or.inl ⟨by rfl, fun w9 hS => ?_⟩) hHeld ?_
            · obtain ⟨s1, s2⟩ := hS
              go_simp
            try simp only [Act.put, List.setIfInBounds_toArray, List.set_cons_zero, List.set_cons_succ, List.getElem_toArray, List.getElem_cons_succ, List.getElem_cons_zero]
            refine wpAnyH_take (i := 17) (oi := _) (v := .pointer (some ⟨pb, po + j * 4, none⟩)) rfl (by kernel_rfl) (by kernel_rfl) (by kernel_rfl) (fun _ _ _ h => h) (Or.inl ⟨by rfl, fun w9 hS => ?_⟩) hHeld ?_
            · obtain ⟨s1, s2⟩ := hS
              go_simp
            try simp only [Act.put, List.setIfInBounds_toArray, List.set_cons_zero, List.set_cons_succ, List.getElem_toArray, List.getElem_cons_succ, List.getElem_cons_zero]
            refine wpAnyH_take (i := 18) (oi := _) (v := .pointer (some ⟨pb, po + j * 4 + 2, none⟩)) rfl (by kernel_rfl) (by kernel_rfl) (by kernel_rfl) (fun _ _ _ h => h) (Or.inl ⟨by rfl, fun w9 hS => ?_⟩) hHeld ?_
            · obtain ⟨s1, s2⟩ := hS
              go_simp
            try simp only [Act.put, List.setIfInBounds_toArray, List.set_cons_zero, List.set_cons_succ, List.getElem_toArray, List.getElem_cons_succ, List.getElem_cons_zero]
            refine wpAnyH_take (i := 19) (oi := _) (v := .int .i64 (dp : Int)) rfl (by kernel_rfl) (by kernel_rfl) (by kernel_rfl) (fun _ _ _ h => h) (Or.inl ⟨by rfl, fun w9 hS => ?_⟩) hHeld ?_
            · obtain ⟨s1, s2⟩ := hS
              go_simp
            try simp only [Act.put, List.setIfInBounds_toArray, List.set_cons_zero, List.set_cons_succ, List.getElem_toArray, List.getElem_cons_succ, List.getElem_cons_zero]
            refine wpAnyH_take (i := 20) (oi := _) (v := .bool bb) rfl (by kernel_rfl) (by kernel_rfl) (by kernel_rfl) (fun _ _ _ h => h) (Or.inl ⟨by rfl, fun w9 hS => ?_⟩) hHeld ?_
            · obtain ⟨s1, s2⟩ := hS
              go_simp
            try simp only [Act.put, List.setIfInBounds_toArray, List.set_cons_zero, List.set_cons_succ, List.getElem_toArray, List.getElem_cons_succ, List.getElem_cons_zero]
            refine wpAnyH_take (i := 21) (oi := _) (v := .slice (some ⟨pb, po, none⟩) ps.length c8) rfl (by kernel_rfl) (by kernel_rfl) (by kernel_rfl) (fun _ _ _ h => h) (Or.inl ⟨by rfl, fun w9 hS => ?_⟩) hHeld ?_
            · obtain ⟨s1, s2⟩ := hS
              go_simp
            try simp only [Act.put, List.setIfInBounds_toArray, List.set_cons_zero, List.set_cons_succ, List.getElem_toArray, List.getElem_cons_succ, List.getElem_cons_zero]
            refine wpAnyH_take (i := 22) (oi := _) (v := .int .i64 (j : Int)) rfl (by kernel_rfl) (by kernel_rfl) (by kernel_rfl) (fun _ _ _ h => h) (Or.inl ⟨by rfl, fun w9 hS => ?_⟩) hHeld ?_
            · obtain ⟨s1, s2⟩ := hS
              go_simp
            try simp only [Act.put, List.setIfInBounds_toArray, List.set_cons_zero, List.set_cons_succ, List.getElem_toArray, List.getElem_cons_succ, List.getElem_cons_zero]
            refine wpAnyH_take (i := 23) (oi := _) (v := .pointer (some ⟨pb, po + j * 4, none⟩)) rfl (by kernel_rfl) (by kernel_rfl) (by kernel_rfl) (fun _ _ _ h => h) (Or.inl ⟨by rfl, fun w9 hS => ?_⟩) hHeld ?_
            · obtain ⟨s1, s2⟩ := hS
              go_simp
            try simp only [Act.put, List.setIfInBounds_toArray, List.set_cons_zero, List.set_cons_succ, List.getElem_toArray, List.getElem_cons_succ, List.getElem_cons_zero]
            refine wpAnyH_take (i := 24) (oi := _) (v := .pointer (some ⟨pb, po + j * 4 + 1, none⟩)) rfl (by kernel_rfl) (by kernel_rfl) (by kernel_rfl) (fun _ _ _ h => h) (Or.inl ⟨by rfl, fun w9 hS => ?_⟩) hHeld ?_
            · obtain ⟨s1, s2⟩ := hS
              go_simp
            try simp only [Act.put, List.setIfInBounds_toArray, List.set_cons_zero, List.set_cons_succ, List.getElem_toArray, List.getElem_cons_succ, List.getElem_cons_zero]
            refine wpAnyH_take (i := 25) (oi := _) (v := .int .i64 (kd : Int)) rfl (by kernel_rfl) (by kernel_rfl) (by kernel_rfl) (fun _ _ _ h => h) (Or.inl ⟨by rfl, fun w9 hS => ?_⟩) hHeld ?_
            · obtain ⟨s1, s2⟩ := hS
              go_simp
            try simp only [Act.put, List.setIfInBounds_toArray, List.set_cons_zero, List.set_cons_succ, List.getElem_toArray, List.getElem_cons_succ, List.getElem_cons_zero]
            refine wpAnyH_take (i := 26) (oi := _) (v := .bool bb) rfl (by kernel_rfl) (by kernel_rfl) (by kernel_rfl) (fun _ _ _ h => h) (Or.inl ⟨by rfl, fun w9 hS => ?_⟩) hHeld ?_
            · obtain ⟨s1, s2⟩ := hS
              go_simp
            try simp only [Act.put, List.setIfInBounds_toArray, List.set_cons_zero, List.set_cons_succ, List.getElem_toArray, List.getElem_cons_succ, List.getElem_cons_zero]
            refine wpAnyH_take (i := 27) (oi := _) (v := .bool false) rfl (by kernel_rfl) (by kernel_rfl) (by kernel_rfl) (fun _ _ _ h => h) (Or.inl ⟨by rfl, fun w9 hS => ?_⟩) hHeld ?_
            · obtain ⟨s1, s2⟩ := hS
              go_simp
            try simp only [Act.put, List.setIfInBounds_toArray, List.set_cons_zero, List.set_cons_succ, List.getElem_toArray, List.getElem_cons_succ, List.getElem_cons_zero]
            refine wpAnyH_take (i := 28) (oi := _) (v := .bool false) rfl (by kernel_rfl) (by kernel_rfl) (by kernel_rfl) (fun _ _ _ h => h) (Or.inl ⟨by rfl, fun w9 hS => ?_⟩) hHeld ?_
            · obtain ⟨s1, s2⟩ := hS
              go_simp
            try simp only [Act.put, List.setIfInBounds_toArray, List.set_cons_zero, List.set_cons_succ, List.getElem_toArray, List.getElem_cons_succ, List.getElem_cons_zero]
            refine wpAnyH_done (by kernel_rfl) ?_ _
            go_wp2_with fail
            exact ⟨⟨j + 1, by go_num, by omega, hbel8.drew⟩, by simp [intOf]; omega⟩
          · have d2 : decide ((j : Int) < (ps.length : Int)) = false := decide_eq_false (by omega)
            have d2' : ¬ (j : Int) < (ps.length : Int) := by omega
            have hor := own_belowW ho38 hbel8
            have hb0r := hb08.next hbel8
            have hgbr : gb < wr.heap.size := by have := hbel8.size; have := hb08.size; omega
            clear h2 hrd8 ho38 hb08 hbel8 f1 hpl
            obtain ⟨n, hn⟩ : ∃ n, n = r1 % bl.length := ⟨_, rfl⟩
            have hnl : n < bl.length := by rw [hn]; exact Nat.mod_lt _ hbpos
            have hrf : (r1 : Int).tmod (bl.length : Int) = (n : Int) := by rw [hn, Int.ofNat_tmod]
            have hrf2 : (r1 : Int) % (bl.length : Int) = (n : Int) := by rw [hn]; simp
            have hz1 : ((bl.length : Int) == 0) = false := beq_eq_false_iff_ne.2 (by omega)
            have hn0 : (0 : Int) ≤ (n : Int) := by omega
            have hnl' : (n : Int) < (bl.length : Int) := by omega
            obtain ⟨v, hv⟩ : ∃ v : Int, (bc bl)[n]? = some (.int .u8 v) := ⟨_, bc_get bl n hnl⟩
            obtain ⟨tz, htz⟩ : ∃ tz, tz = bits .and .u8 tu 127 := ⟨_, rfl⟩
            obtain ⟨ty, hty⟩ : ∃ ty, ty = (1 + tz) % 256 := ⟨_, rfl⟩
            obtain ⟨z, hz⟩ : ∃ z, z = bits .xor .u8 v ty := ⟨_, rfl⟩
            have hzr := bits_u8_range .xor v ty
            rw [← hz] at hzr
            obtain ⟨o1, o2, o3, o4, o5, o6⟩ := own_set hor hnl (.int .u8 z)
            rw [hv] at o4
            obtain ⟨l2, hl2⟩ : ∃ l2, l2 = bl.set n (UInt8.ofNat z.toNat) := ⟨_, rfl⟩
            have hll : l2.length = bl.length := by rw [hl2, List.length_set]
            rw [bc_set hzr.1 hzr.2, ← hl2, ← hll] at o1
            obtain ⟨w9, hw9⟩ : ∃ w9, w9 = wr.setCell ⟨gb, n, none⟩ (.int .u8 z) := ⟨_, rfl⟩
            rw [← hw9] at o1 o2
            have hb09 : Below w.heap.size w w9 := hb0r.trans (below_of_grown o2 hgbw hb0r.size)
            have HO := Lib.hid o1
            have hP2 := Parse_calls (some ⟨gb, 0, none⟩) l2 c3 w9 (Rd.of_own o1) (by omega) i2 (by omega)
            rw [hll] at hP2
            have HP2 := Lib.hid hP2
            clear hP2
            have HW := Lib.hid hw9
            have HLL := Lib.hid hll
            have hbz : ¬ ((bl.length : Int) = 0) := by omega
            replace hz := hz.symm
            replace hty := hty.symm
            replace htz := htz.symm
            clear o1 o2 hw9 hll hl2 hn hv hor hnl hb0r hzr
            go_upto_region 25 with (fail)
            rw [← HW.out]
            go_wp2_with fail
            refine HP2.out.mono ?_
            rintro e w10 ⟨hb10, hm10⟩
            clear HP2 HW
            cases hq2 : parseL geS l2 with
            | none =>
              rw [hq2] at hm10
              obtain rfl : e = .returned (.tuple #[.pointer none, .int .i64 2]) := hm10
              clear hq2
              go_wp2_with fail
              refine wp_region_held_drew (S := fun W => True) (by kernel_rfl) (trivial) (fun hHeld => ?_)
              refine wpAnyH_take (i := 0) (oi := _) (v := .bool true) rfl (by kernel_rfl) (by kernel_rfl) (by kernel_rfl) (fun _ _ _ h => h) (Or.inl ⟨by rfl, fun w9 hS => ?_⟩) hHeld ?_
              · have s1 := hS
                go_simp
              try simp only [Act.put, List.setIfInBounds_toArray, List.set_cons_zero, List.set_cons_succ, List.getElem_toArray, List.getElem_cons_zero]
              refine wpAnyH_take (i := 1) (oi := _) (v := .bool true) rfl (by kernel_rfl) (by kernel_rfl) (by kernel_rfl) (fun _ _ _ h => h) (Or.inl ⟨by rfl, fun w9 hS => ?_⟩) hHeld ?_
              · have s1 := hS
                go_simp
              try simp only [Act.put, List.setIfInBounds_toArray, List.set_cons_zero, List.set_cons_succ, List.getElem_toArray, List.getElem_cons_succ, List.getElem_cons_zero]
              refine wpAnyH_take (i := 2) (oi := _) (v := .int .i64 2) rfl (by kernel_rfl) (by kernel_rfl) (by kernel_rfl) (fun _ _ _ h => h) (Or.inl ⟨by rfl, fun w9 hS => ?_⟩) hHeld ?_
              · have s1 := hS
                go_simp
              try simp only [Act.put, List.setIfInBounds_toArray, List.set_cons_zero, List.set_cons_succ, List.getElem_toArray, List.getElem_cons_succ, List.getElem_cons_zero]
              refine wpAnyH_take (i := 3) (oi := _) (v := .bool true) rfl (by kernel_rfl) (by kernel_rfl) (by kernel_rfl) (fun _ _ _ h => h) (Or.inl ⟨by rfl, fun w9 hS => ?_⟩) hHeld ?_
              · have s1 := hS
                go_simp
              try simp only [Act.put, List.setIfInBounds_toArray, List.set_cons_zero, List.set_cons_succ, List.getElem_toArray, List.getElem_cons_succ, List.getElem_cons_zero]
              refine wpAnyH_take (i := 4) (oi := _) (v := .bool true) rfl (by kernel_rfl) (by kernel_rfl) (by kernel_rfl) (fun _ _ _ h => h) (Or.inl ⟨by rfl, fun w9 hS => ?_⟩) hHeld ?_
              · have s1 := hS
                go_simp
              try simp only [Act.put, List.setIfInBounds_toArray, List.set_cons_zero, List.set_cons_succ, List.getElem_toArray, List.getElem_cons_succ, List.getElem_cons_zero]
              refine wpAnyH_take (i := 5) (oi := _) (v := undef) rfl (by kernel_rfl) (by kernel_rfl) (by kernel_rfl) (fun _ _ _ h => h) (Or.inr ⟨by rfl, rfl⟩) hHeld ?_
              try simp only [Act.put, List.setIfInBounds_toArray, List.set_cons_zero, List.set_cons_succ, List.getElem_toArray, List.getElem_cons_succ, List.getElem_cons_zero]
              refine wpAnyH_take (i := 6) (oi := _) (v := undef) rfl (by kernel_rfl) (by kernel_rfl) (by kernel_rfl) (fun _ _ _ h => h) (Or.inr ⟨by rfl, rfl⟩) hHeld ?_
              try simp only [Act.put, List.setIfInBounds_toArray, List.set_cons_zero, List.set_cons_succ, List.getElem_toArray, List.getElem_cons_succ, List.getElem_cons_zero]
              refine wpAnyH_take (i := 7) (oi := _) (v := undef) rfl (by kernel_rfl) (by kernel_rfl) (by kernel_rfl) (fun _ _ _ h => h) (Or.inr ⟨by rfl, rfl⟩) hHeld ?_
              try simp only [Act.put, List.setIfInBounds_toArray, List.set_cons_zero, List.set_cons_succ, List.getElem_toArray, List.getElem_cons_succ, List.getElem_cons_zero]
              refine wpAnyH_take (i := 8) (oi := _) (v := undef) rfl (by kernel_rfl) (by kernel_rfl) (by kernel_rfl) (fun _ _ _ h => h) (Or.inr ⟨by rfl, rfl⟩) hHeld ?_
              try simp only [Act.put, List.setIfInBounds_toArray, List.set_cons_zero, List.set_cons_succ, List.getElem_toArray, List.getElem_cons_succ, List.getElem_cons_zero]
              refine wpAnyH_take (i := 9) (oi := _) (v := undef) rfl (by kernel_rfl) (by kernel_rfl) (by kernel_rfl) (fun _ _ _ h => h) (Or.inr ⟨by rfl, rfl⟩) hHeld ?_
              try simp only [Act.put, List.setIfInBounds_toArray, List.set_cons_zero, List.set_cons_succ, List.getElem_toArray, List.getElem_cons_succ, List.getElem_cons_zero]
              refine wpAnyH_take (i := 10) (oi := _) (v := undef) rfl (by kernel_rfl) (by kernel_rfl) (by kernel_rfl) (fun _ _ _ h => h) (Or.inr ⟨by rfl, rfl⟩) hHeld ?_
              try simp only [Act.put, List.setIfInBounds_toArray, List.set_cons_zero, List.set_cons_succ, List.getElem_toArray, List.getElem_cons_succ, List.getElem_cons_zero]
              refine wpAnyH_take (i := 11) (oi := _) (v := undef) rfl (by kernel_rfl) (by kernel_rfl) (by kernel_rfl) (fun _ _ _ h => h) (Or.inr ⟨by rfl, rfl⟩) hHeld ?_
              try simp only [Act.put, List.setIfInBounds_toArray, List.set_cons_zero, List.set_cons_succ, List.getElem_toArray, List.getElem_cons_succ, List.getElem_cons_zero]
              refine wpAnyH_take (i := 12) (oi := _) (v := undef) rfl (by kernel_rfl) (by kernel_rfl) (by kernel_rfl) (fun _ _ _ h => h) (Or.inr ⟨by rfl, rfl⟩) hHeld ?_
              try simp only [Act.put, List.setIfInBounds_toArray, List.set_cons_zero, List.set_cons_succ, List.getElem_toArray, List.getElem_cons_succ, List.getElem_cons_zero]
              refine wpAnyH_take (i := 13) (oi := _) (v := undef) rfl (by kernel_rfl) (by kernel_rfl) (by kernel_rfl) (fun _ _ _ h => h) (Or.inr ⟨by rfl, rfl⟩) hHeld ?_
              try simp only [Act.put, List.setIfInBounds_toArray, List.set_cons_zero, List.set_cons_succ, List.getElem_toArray, List.getElem_cons_succ, List.getElem_cons_zero]
              refine wpAnyH_take (i := 14) (oi := _) (v := undef) rfl (by kernel_rfl) (by kernel_rfl) (by kernel_rfl) (fun _ _ _ h => h) (Or.inr ⟨by rfl, rfl⟩) hHeld ?_
              try simp only [Act.put, List.setIfInBounds_toArray, List.set_cons_zero, List.set_cons_succ, List.getElem_toArray, List.getElem_cons_succ, List.getElem_cons_zero]
              refine wpAnyH_take (i := 15) (oi := _) (v := undef) rfl (by kernel_rfl) (by kernel_rfl) (by kernel_rfl) (fun _ _ _ h => h) (Or.inr ⟨by rfl, rfl⟩) hHeld ?_
              try simp only [Act.put, List.setIfInBounds_toArray, List.set_cons_zero, List.set_cons_succ, List.getElem_toArray, List.getElem_cons_succ, List.getElem_cons_zero]
              refine wpAnyH_take (i := 16) (oi := _) (v := undef) rfl (by kernel_rfl) (by kernel_rfl) (by kernel_rfl) (fun _ _ _ h => h) (Or.inr ⟨by rfl, rfl⟩) hHeld ?_
              try simp only [Act.put, List.setIfInBounds_toArray, List.set_cons_zero, List.set_cons_succ, List.getElem_toArray, List.getElem_cons_succ, List.getElem_cons_zero]
              refine wpAnyH_take (i := 17) (oi := _) (v := undef) rfl (by kernel_rfl) (by kernel_rfl) (by kernel_rfl) (fun _ _ _ h => h) (Or.inr ⟨by rfl, rfl⟩) hHeld ?_
              try simp only [Act.put, List.setIfInBounds_toArray, List.set_cons_zero, List.set_cons_succ, List.getElem_toArray, List.getElem_cons_succ, List.getElem_cons_zero]
              refine wpAnyH_take (i := 18) (oi := _) (v := .bool true) rfl (by kernel_rfl) (by kernel_rfl) (by kernel_rfl) (fun _ _ _ h => h) (Or.inl ⟨by rfl, fun w9 hS => ?_⟩) hHeld ?_
              · have s1 := hS
                go_simp
              try simp only [Act.put, List.setIfInBounds_toArray, List.set_cons_zero, List.set_cons_succ, List.getElem_toArray, List.getElem_cons_succ, List.getElem_cons_zero]
              refine wpAnyH_take (i := 19) (oi := _) (v := .bool true) rfl (by kernel_rfl) (by kernel_rfl) (by kernel_rfl) (fun _ _ _ h => h) (Or.inl ⟨by rfl, fun w9 hS => ?_⟩) hHeld ?_
              · have s1 := hS
                go_simp
              try simp only [Act.put, List.setIfInBounds_toArray, List.set_cons_zero, List.set_cons_succ, List.getElem_toArray, List.getElem_cons_succ, List.getElem_cons_zero]
              refine wpAnyH_take (i := 20) (oi := _) (v := .bool true) rfl (by kernel_rfl) (by kernel_rfl) (by kernel_rfl) (fun _ _ _ h => h) (Or.inl ⟨by rfl, fun w9 hS => ?_⟩) hHeld ?_
              · have s1 := hS
                go_simp
              try simp only [Act.put, List.setIfInBounds_toArray, List.set_cons_zero, List.set_cons_succ, List.getElem_toArray, List.getElem_cons_succ, List.getElem_cons_zero]
              refine wpAnyH_done (by kernel_rfl) ?_ _
              go_wp2_with fail
              go_ret
              exact ⟨rfl, hb09.next hb10.drew⟩
            | some qs =>
              rw [hq2] at hm10
              obtain ⟨g10, q10, A10, c10, m10, _, rfl, _⟩ := hm10
              obtain ⟨h36, hsum⟩ := parse_sum hq2
              have hll := HLL.out
              obtain ⟨kk, hkk⟩ : ∃ kk, kk = l2.length - 32 := ⟨_, rfl⟩
              rw [← hkk] at hsum
              have hkl : kk ≤ l2.length := by omega
              have hr10 := (Rd.of_own HO.out).belowW hb10 (Nat.le_refl _)
              have f9 : IntKind.i64.wrap ((bl.length : Int) - 32) = (kk : Int) := by rw [IntWalk.i64_in _ (by omega)]; omega
              obtain ⟨m6, hm6, h61, h62, h6p, _, sl6⟩ := sl_to (k := kk) (kk : Int) rfl hr10 hkl (by omega) i2
              obtain ⟨m7, A7, c7, hm7, h71, h72, h7p, _, _, _, sl7⟩ := sl_from (k := kk) (kk : Int) rfl hr10 hkl (by omega) i2
              rw [hll] at sl6 sl7
              have HE : Hid (sumOf m6 = m7) := by unfold Hid; rw [hm6.out, hm7.out]; exact hsum
              have HS : Hid (Calls Tryz.prog 17 #[.slice (some ⟨gb, 0, none⟩) m6.length c3] w10.drew fun e w' => ∃ l', Hid (l' = sumOf m6) ∧ e = .returned (.string ⟨l'.toArray⟩) ∧ Below w10.drew.heap.size w10.drew w') :=
                Sum_calls _ m6 c3 w10.drew ((h6p.1.drew).more (by have := hb10.size; exact this)) (by omega)
              have cv0 : (convert 25 9 (.slice A7 m7.length c7)).run Tryz.prog w10.drew = .ok (.string ⟨m7.toArray⟩) w10.drew := conv8f h7p.1.drew
              have HV : Hid (∀ W, Below w10.drew.heap.size w10.drew W → (convert 25 9 (.slice A7 m7.length c7)).run Tryz.prog W = .ok (.string ⟨m7.toArray⟩) W) := fun W hW => conv8f (h7p.1.belowW (((Below.refl _ _).drew).trans hW) (by have := hb10.size; omega))
              clear hq2 hsum hkk hll hr10
              go_wp2_with fail
              refine wp_region_held_drew (S := fun W => (convert 25 9 (.slice A7 m7.length c7)).run Tryz.prog W = .ok (.string ⟨m7.toArray⟩) W) (by kernel_rfl) (cv0) (fun hHeld => ?_)
              refine wpAnyH_take (i := 0) (oi := _) (v := .bool true) rfl (by kernel_rfl) (by kernel_rfl) (by kernel_rfl) (fun _ _ _ h => h) (Or.inl ⟨by rfl, fun w9 hS => ?_⟩) hHeld ?_
              · have s1 := hS
                go_simp
              try simp only [Act.put, List.setIfInBounds_toArray, List.set_cons_zero, List.set_cons_succ, List.getElem_toArray, List.getElem_cons_zero]
              refine wpAnyH_take (i := 1) (oi := _) (v := .bool true) rfl (by kernel_rfl) (by kernel_rfl) (by kernel_rfl) (fun _ _ _ h => h) (Or.inl ⟨by rfl, fun w9 hS => ?_⟩) hHeld ?_
              · have s1 := hS
                go_simp
              try simp only [Act.put, List.setIfInBounds_toArray, List.set_cons_zero, List.set_cons_succ, List.getElem_toArray, List.getElem_cons_succ, List.getElem_cons_zero]
              refine wpAnyH_take (i := 2) (oi := _) (v := .int .i64 0) rfl (by kernel_rfl) (by kernel_rfl) (by kernel_rfl) (fun _ _ _ h => h) (Or.inl ⟨by rfl, fun w9 hS => ?_⟩) hHeld ?_
              · have s1 := hS
                go_simp
              try simp only [Act.put, List.setIfInBounds_toArray, List.set_cons_zero, List.set_cons_succ, List.getElem_toArray, List.getElem_cons_succ, List.getElem_cons_zero]
              refine wpAnyH_take (i := 3) (oi := _) (v := .bool false) rfl (by kernel_rfl) (by kernel_rfl) (by kernel_rfl) (fun _ _ _ h => h) (Or.inl ⟨by rfl, fun w9 hS => ?_⟩) hHeld ?_
              · have s1 := hS
                go_simp
              try simp only [Act.put, List.setIfInBounds_toArray, List.set_cons_zero, List.set_cons_succ, List.getElem_toArray, List.getElem_cons_succ, List.getElem_cons_zero]
              refine wpAnyH_take (i := 4) (oi := _) (v := .bool false) rfl (by kernel_rfl) (by kernel_rfl) (by kernel_rfl) (fun _ _ _ h => h) (Or.inl ⟨by rfl, fun w9 hS => ?_⟩) hHeld ?_
              · have s1 := hS
                go_simp
              try simp only [Act.put, List.setIfInBounds_toArray, List.set_cons_zero, List.set_cons_succ, List.getElem_toArray, List.getElem_cons_succ, List.getElem_cons_zero]
              refine wpAnyH_take (i := 5) (oi := _) (v := .slice (some ⟨gb, 0, none⟩) bl.length c3) rfl (by kernel_rfl) (by kernel_rfl) (by kernel_rfl) (fun _ _ _ h => h) (Or.inl ⟨by rfl, fun w9 hS => ?_⟩) hHeld ?_
              · have s1 := hS
                go_simp
              try simp only [Act.put, List.setIfInBounds_toArray, List.set_cons_zero, List.set_cons_succ, List.getElem_toArray, List.getElem_cons_succ, List.getElem_cons_zero]
              refine wpAnyH_take (i := 6) (oi := _) (v := .slice (some ⟨gb, 0, none⟩) bl.length c3) rfl (by kernel_rfl) (by kernel_rfl) (by kernel_rfl) (fun _ _ _ h => h) (Or.inl ⟨by rfl, fun w9 hS => ?_⟩) hHeld ?_
              · have s1 := hS
                go_simp
              try simp only [Act.put, List.setIfInBounds_toArray, List.set_cons_zero, List.set_cons_succ, List.getElem_toArray, List.getElem_cons_succ, List.getElem_cons_zero]
              refine wpAnyH_take (i := 7) (oi := _) (v := .int .i64 (bl.length : Int)) rfl (by kernel_rfl) (by kernel_rfl) (by kernel_rfl) (fun _ _ _ h => h) (Or.inl ⟨by rfl, fun w9 hS => ?_⟩) hHeld ?_
              · have s1 := hS
                go_simp
              try simp only [Act.put, List.setIfInBounds_toArray, List.set_cons_zero, List.set_cons_succ, List.getElem_toArray, List.getElem_cons_succ, List.getElem_cons_zero]
              refine wpAnyH_take (i := 8) (oi := _) (v := .int .i64 (kk : Int)) rfl (by kernel_rfl) (by kernel_rfl) (by kernel_rfl) (fun _ _ _ h => h) (Or.inl ⟨by rfl, fun w9 hS => ?_⟩) hHeld ?_
              · have s1 := hS
                go_simp
              try simp only [Act.put, List.setIfInBounds_toArray, List.set_cons_zero, List.set_cons_succ, List.getElem_toArray, List.getElem_cons_succ, List.getElem_cons_zero]
              refine wpAnyH_take (i := 9) (oi := _) (v := .slice (some ⟨gb, 0, none⟩) m6.length c3) rfl (by kernel_rfl) (by kernel_rfl) (by kernel_rfl) (fun _ _ _ h => h) (Or.inl ⟨by rfl, fun w9 hS => ?_⟩) hHeld ?_
              · have s1 := hS
                go_simp
              try simp only [Act.put, List.setIfInBounds_toArray, List.set_cons_zero, List.set_cons_succ, List.getElem_toArray, List.getElem_cons_succ, List.getElem_cons_zero]
              refine wpAnyH_take (i := 11) (oi := _) (v := .slice (some ⟨gb, 0, none⟩) bl.length c3) rfl (by kernel_rfl) (by kernel_rfl) (by kernel_rfl) (fun _ _ _ h => h) (Or.inl ⟨by rfl, fun w9 hS => ?_⟩) hHeld ?_
              · have s1 := hS
                go_simp
              try simp only [Act.put, List.setIfInBounds_toArray, List.set_cons_zero, List.set_cons_succ, List.getElem_toArray, List.getElem_cons_succ, List.getElem_cons_zero]
              refine wpAnyH_take (i := 12) (oi := _) (v := .slice (some ⟨gb, 0, none⟩) bl.length c3) rfl (by kernel_rfl) (by kernel_rfl) (by kernel_rfl) (fun _ _ _ h => h) (Or.inl ⟨by rfl, fun w9 hS => ?_⟩) hHeld ?_
              · have s1 := hS
                go_simp
              try simp only [Act.put, List.setIfInBounds_toArray, List.set_cons_zero, List.set_cons_succ, List.getElem_toArray, List.getElem_cons_succ, List.getElem_cons_zero]
              refine wpAnyH_take (i := 13) (oi := _) (v := .int .i64 (bl.length : Int)) rfl (by kernel_rfl) (by kernel_rfl) (by kernel_rfl) (fun _ _ _ h => h) (Or.inl ⟨by rfl, fun w9 hS => ?_⟩) hHeld ?_
              · have s1 := hS
                go_simp
              try simp only [Act.put, List.setIfInBounds_toArray, List.set_cons_zero, List.set_cons_succ, List.getElem_toArray, List.getElem_cons_succ, List.getElem_cons_zero]
              refine wpAnyH_take (i := 14) (oi := _) (v := .int .i64 (kk : Int)) rfl (by kernel_rfl) (by kernel_rfl) (by kernel_rfl) (fun _ _ _ h => h) (Or.inl ⟨by rfl, fun w9 hS => ?_⟩) hHeld ?_
              · have s1 := hS
                go_simp
              try simp only [Act.put, List.setIfInBounds_toArray, List.set_cons_zero, List.set_cons_succ, List.getElem_toArray, List.getElem_cons_succ, List.getElem_cons_zero]
              refine wpAnyH_take (i := 15) (oi := _) (v := .slice A7 m7.length c7) rfl (by kernel_rfl) (by kernel_rfl) (by kernel_rfl) (fun _ _ _ h => h) (Or.inl ⟨by rfl, fun w9 hS => ?_⟩) hHeld ?_
              · have s1 := hS
                go_simp
              try simp only [Act.put, List.setIfInBounds_toArray, List.set_cons_zero, List.set_cons_succ, List.getElem_toArray, List.getElem_cons_succ, List.getElem_cons_zero]
              refine wpAnyH_take (i := 16) (oi := _) (v := .string ⟨m7.toArray⟩) rfl (by kernel_rfl) (by kernel_rfl) (by kernel_rfl) (fun _ _ _ h => h) (Or.inl ⟨by rfl, fun w9 hS => ?_⟩) hHeld ?_
              · have s1 := hS
                go_simp
              try simp only [Act.put, List.setIfInBounds_toArray, List.set_cons_zero, List.set_cons_succ, List.getElem_toArray, List.getElem_cons_succ, List.getElem_cons_zero]
              refine wpAnyH_ready (rs := [10]) (by kernel_rfl) (by simp) (AllReadyH.cons (o := _) rfl (fun K hK => ?_) AllReadyH.nil)
              go_simp
              refine (HS.out).mono ?_
              rintro e w11 ⟨l11, hl11, rfl, hb11⟩
              have cv1 := HV.out w11 hb11
              have e11 : l11 = m7 := by rw [hl11.out]; exact HE.out
              refine hK.out _ _ cv1 (fun hHeld => ?_)
              clear hK K
              try simp only [Act.put, List.setIfInBounds_toArray, List.set_cons_zero, List.set_cons_succ, List.getElem_toArray, List.getElem_cons_succ, List.getElem_cons_zero]
              refine wpAnyH_take (i := 17) (oi := _) (v := .bool true) rfl (by kernel_rfl) (by kernel_rfl) (by kernel_rfl) (fun _ _ _ h => h) (Or.inl ⟨by rfl, fun w9 hS => ?_⟩) hHeld ?_
              · have s1 := hS
                go_simp <;> exact e11
              try simp only [Act.put, List.setIfInBounds_toArray, List.set_cons_zero, List.set_cons_succ, List.getElem_toArray, List.getElem_cons_succ, List.getElem_cons_zero]
              refine wpAnyH_take (i := 18) (oi := _) (v := .bool true) rfl (by kernel_rfl) (by kernel_rfl) (by kernel_rfl) (fun _ _ _ h => h) (Or.inl ⟨by rfl, fun w9 hS => ?_⟩) hHeld ?_
              · have s1 := hS
                go_simp
              try simp only [Act.put, List.setIfInBounds_toArray, List.set_cons_zero, List.set_cons_succ, List.getElem_toArray, List.getElem_cons_succ, List.getElem_cons_zero]
              refine wpAnyH_take (i := 19) (oi := _) (v := .bool true) rfl (by kernel_rfl) (by kernel_rfl) (by kernel_rfl) (fun _ _ _ h => h) (Or.inl ⟨by rfl, fun w9 hS => ?_⟩) hHeld ?_
              · have s1 := hS
                go_simp
              try simp only [Act.put, List.setIfInBounds_toArray, List.set_cons_zero, List.set_cons_succ, List.getElem_toArray, List.getElem_cons_succ, List.getElem_cons_zero]
              refine wpAnyH_take (i := 20) (oi := _) (v := .bool true) rfl (by kernel_rfl) (by kernel_rfl) (by kernel_rfl) (fun _ _ _ h => h) (Or.inl ⟨by rfl, fun w9 hS => ?_⟩) hHeld ?_
              · have s1 := hS
                go_simp
              try simp only [Act.put, List.setIfInBounds_toArray, List.set_cons_zero, List.set_cons_succ, List.getElem_toArray, List.getElem_cons_succ, List.getElem_cons_zero]
              refine wpAnyH_done (by kernel_rfl) ?_ _
              go_wp2_with fail
              go_ret
              exact ⟨rfl, (hb09.next hb10).next (((Below.refl _ _).drew).trans hb11)⟩
end Go.Proofs.YtnaakfnbmeimaaaGreat
