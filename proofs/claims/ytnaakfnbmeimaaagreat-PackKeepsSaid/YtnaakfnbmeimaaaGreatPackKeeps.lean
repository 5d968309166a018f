/- The walk of the law PackKeeps. Conditions: at most 2^47 objects. -/
import Derived.Test.YtnaakfnbmeimaaaGreatPckAwake
import Derived.Test.YtnaakfnbmeimaaaGreatPackIdsLaw
import Derived.Test.YtnaakfnbmeimaaaGreatOwnSet
import Derived.Laws.Concat
import Derived.Deep.DeepCutAuto
namespace Go.Dol
open Go.RowKit
/-- The rows' bytes as one text. -/
def catS (l : List RowB) : ByteArray := ⟨(l.flatMap (·.l)).toArray⟩
theorem catS_succ {l : List RowB} {k : Nat} {x : RowB} (h : l[k]? = some x) : catS (l.take k) ++ (⟨x.l.toArray⟩ : ByteArray) = catS (l.take (k + 1)) := by
  obtain ⟨hk, e⟩ := List.getElem?_eq_some_iff.1 h
  apply ByteArray.ext
  rw [ByteArray.data_append]
  apply Array.toList_inj.1
  rw [List.take_succ_eq_append_getElem hk, e]
  simp [catS]
/-- The rounds of a loop that joins rows. -/
def CatRel (ys : List RowB) (o i : Value) : Prop := ∃ (k : Nat) (s : ByteArray), o = .string s ∧ i = .int .i64 k ∧ k ≤ ys.length ∧ s.size ≤ k * 2097152 ∧ Hid (s = catS (ys.take k))
theorem bc_bytes (l : List UInt8) : Hid (∀ j, j < l.length → ∃ x : Int, (bc l)[j]? = some (.int .u8 x)) := fun j hj => ⟨_, bc_get l j hj⟩
end Go.Dol
namespace Go.Proofs.YtnaakfnbmeimaaaGreat
open Go.RowKit Go.Dol
set_option linter.unusedVariables false
theorem get_ownK {l : List Pt} (hn : (l.map (·.id)).Nodup) {p : Pt} (h : p ∈ l) {s : ByteArray} (hs : s.data.toList = p.id) (h32 : s.size = 32) : getP l s = .ok p.raw := by
  unfold getP
  rw [if_pos h32, hs, look_own hn h]
def KeepRel2 (n : Nat) (w : World) (i : Value) (wr : World) : Prop := ∃ k : Nat, i = .int .i64 k ∧ k ≤ n ∧ Below w.heap.size w wr
set_option maxRecDepth 100000 in
set_option maxHeartbeats 3200000 in
theorem packKeeps_walk (A : Option Addr) (l : List ObA) (c : Nat) (w : World) (hr : Rd w w.heap.size 10 A l.length (oc l)) (hos : Obs w w.heap.size l) (hl : l.length ≤ 140737488351232) :
    Calls Tryz.prog 4 #[.slice A l.length c] w fun e w' => e = .returned (.bool true) ∧ Below w.heap.size w w' := by
  have HA := Lib.hid (awake_calls w)
  go_enter Tryz.func4, Tryz.ntmps4
  go_wp2_with fail
  refine HA.out.mono ?_
  rintro e w1 ⟨rfl, hb1⟩
  have hs1 := hb1.size
  have hR := raws_calls A l c none [] 0 w1 ((hr.below hb1).more hs1) ((hos.below hb1).more hs1) hl Rd.nil Rws.nil (by simp)
  rw [List.map_nil] at hR
  have HR := Lib.hid hR
  clear hR HA
  go_wp2_with fail
  refine HR.out.mono ?_
  rintro e w2 ⟨ys, A2, c2, hys, rfl, ho2, hf2, hb2, hy44⟩
  have hs2 := hb2.size
  have HFEW := Lib.hid (raws_few hys.out)
  have HOBJ := Lib.hid (raws_objs (l.map ObA.o))
  have hrd2 := Rd.of_own ho2
  have hrw2 := hf2.rws
  have hB := Build_calls A2 ys c2 w2 hrd2 hrw2 (by omega) (fun x hx => Nat.le_trans (HFEW.out x hx) (by omega))
  obtain ⟨rs, hrs⟩ : ∃ rs, rs = ys.map (·.l) := ⟨_, rfl⟩
  rw [← hrs] at hB
  have hrl : rs.length = ys.length := by rw [hrs]; simp
  have HRL := Lib.hid hrl
  have HB := Lib.hid hB
  have HRS := Lib.hid hrs
  have hb02 := hb1.next hb2
  clear hB hrs hrl HR ho2 hf2
  go_wp2_with fail
  go_loop [5, 6] (fun o i => CatRel ys o i) (fun _ i => ys.length - (intOf i).toNat)
  case atStart => exact ⟨0, ⟨#[]⟩, rfl, rfl, Nat.zero_le _, by decide, rfl⟩
  case round =>
    obtain ⟨k, s, rfl, rfl, hk, hsz, hs⟩ := hrel
    have f1 : IntKind.i64.wrap ((k : Int) + 1) = (k : Int) + 1 := IntWalk.i64_in _ (by omega)
    by_cases h1 : k < ys.length
    · have d1 : decide ((k : Int) < (ys.length : Int)) = true := decide_eq_true (by omega)
      have d1' : (k : Int) < (ys.length : Int) := by omega
      have hk0 : (0 : Int) ≤ (k : Int) := by omega
      obtain ⟨x, hx⟩ : ∃ x, ys[k]? = some x := ⟨ys[k], List.getElem?_eq_getElem h1⟩
      obtain ⟨rb, ro, rfl, hrb, hcr⟩ := hrd2.at_ (by omega)
      have q2 := hcr k _ (rc_get hx)
      have v1 := conv8f (c := x.c) ((hrw2 x (List.mem_of_getElem? hx)).1)
      have hxl := HFEW.out x (List.mem_of_getElem? hx)
      have hs2 : Hid (s ++ (⟨x.l.toArray⟩ : ByteArray) = catS (ys.take (k + 1))) := by unfold Hid; rw [hs.out]; exact catS_succ hx
      obtain ⟨s', hs'⟩ : ∃ s', s' = s ++ (⟨x.l.toArray⟩ : ByteArray) := ⟨_, rfl⟩
      have hsz2 : s'.size ≤ (k + 1) * 2097152 := by rw [hs', ByteArray.size_append]; show s.size + x.l.toArray.size ≤ _; rw [List.size_toArray]; omega
      rw [← hs'] at hs2
      have ad : ∀ w', (Op.stringOp .add s ⟨x.l.toArray⟩).run Tryz.prog w' = .ok (.string s') w' := fun w' => by rw [hs']; exact run_string_add_sum w' _ _ (by show s.size + x.l.toArray.size ≤ 9223372036854775807; rw [List.size_toArray]; omega)
      clear hcr hx hs hs' hxl hsz
      go_wp2_with fail
      exact ⟨⟨k + 1, s', rfl, by go_num, by omega, hsz2, hs2⟩, by simp [intOf]; omega⟩
    · have d1 : decide ((k : Int) < (ys.length : Int)) = false := decide_eq_false (by omega)
      have d1' : ¬ (k : Int) < (ys.length : Int) := by omega
      have hs3 : Hid (s = catS ys) := by
        have hk9 : k = ys.length := by omega
        rw [hk9, List.take_length] at hs
        exact hs
      clear h1 hs f1 hsz
      obtain ⟨s5, h9⟩ : ∃ s9, s9 = s := ⟨_, rfl⟩
      rw [← h9] at hs3
      rw [← h9]
      clear h9
      go_wp2_with fail
      clear d1 d1' hk
      refine HB.out.mono ?_
      rintro e w3 ⟨hb3, hm⟩
      clear HB
      have hb03 := hb02.next hb3
      cases hbl : buildL geS rs with
      | none =>
        rw [hbl] at hm
        obtain rfl : e = .returned (.tuple #[.slice none 0 0, .int .i64 1]) := hm
        have hP := Parse_calls none [] 0 w3 Rd.nil (by simp) (by decide) (by simp)
        rw [show parseL geS [] = none by rfl] at hP
        have HP := Lib.hid hP
        clear hbl hP
        go_wp2_with fail
        refine HP.out.mono ?_
        rintro e w4 ⟨hb4, hm4⟩
        obtain rfl : e = .returned (.tuple #[.pointer none, .int .i64 2]) := hm4
        have hb24 := hb3.next hb4
        have hrd4 := hrd2.below hb24
        have hrw4 := hrw2.below hb24
        have hb04 := hb03.next hb4
        clear HP hrd2 hrw2
        obtain ⟨s5h, h5h⟩ : ∃ P, P = Hid (s5 = catS ys) := ⟨_, rfl⟩
        have HS5 : s5h := by rw [h5h]; exact hs3
        clear hs3
        go_wp2_with fail
        go_loop [11, 12] (fun o i => CatRel ys o i) (fun _ i => ys.length - (intOf i).toNat)
        case atStart => exact ⟨0, ⟨#[]⟩, rfl, rfl, Nat.zero_le _, by decide, rfl⟩
        case round =>
          obtain ⟨k, s, rfl, rfl, hk, hsz, hs⟩ := hrel
          have f1 : IntKind.i64.wrap ((k : Int) + 1) = (k : Int) + 1 := IntWalk.i64_in _ (by omega)
          by_cases h1 : k < ys.length
          · have d1 : decide ((k : Int) < (ys.length : Int)) = true := decide_eq_true (by omega)
            have d1' : (k : Int) < (ys.length : Int) := by omega
            have hk0 : (0 : Int) ≤ (k : Int) := by omega
            obtain ⟨x, hx⟩ : ∃ x, ys[k]? = some x := ⟨ys[k], List.getElem?_eq_getElem h1⟩
            obtain ⟨rb, ro, rfl, hrb, hcr⟩ := hrd4.at_ (by omega)
            have q2 := hcr k _ (rc_get hx)
            have v1 := conv8f (c := x.c) ((hrw4 x (List.mem_of_getElem? hx)).1)
            have hxl := HFEW.out x (List.mem_of_getElem? hx)
            have hs2 : Hid (s ++ (⟨x.l.toArray⟩ : ByteArray) = catS (ys.take (k + 1))) := by unfold Hid; rw [hs.out]; exact catS_succ hx
            obtain ⟨s', hs'⟩ : ∃ s', s' = s ++ (⟨x.l.toArray⟩ : ByteArray) := ⟨_, rfl⟩
            have hsz2 : s'.size ≤ (k + 1) * 2097152 := by rw [hs', ByteArray.size_append]; show s.size + x.l.toArray.size ≤ _; rw [List.size_toArray]; omega
            rw [← hs'] at hs2
            have ad : ∀ w', (Op.stringOp .add s ⟨x.l.toArray⟩).run Tryz.prog w' = .ok (.string s') w' := fun w' => by rw [hs']; exact run_string_add_sum w' _ _ (by show s.size + x.l.toArray.size ≤ 9223372036854775807; rw [List.size_toArray]; omega)
            clear hcr hx hs hs' hxl hsz
            go_wp2_with fail
            exact ⟨⟨k + 1, s', rfl, by go_num, by omega, hsz2, hs2⟩, by simp [intOf]; omega⟩
          · have d1 : decide ((k : Int) < (ys.length : Int)) = false := decide_eq_false (by omega)
            have d1' : ¬ (k : Int) < (ys.length : Int) := by omega
            have hs3 : Hid (s = catS ys) := by
              have hk9 : k = ys.length := by omega
              rw [hk9, List.take_length] at hs
              exact hs
            clear h1 hs f1 hsz
            obtain ⟨s11, h9⟩ : ∃ s9, s9 = s := ⟨_, rfl⟩
            rw [← h9] at hs3
            rw [← h9]
            clear h9
            go_wp2_with fail
            clear d1 d1' hk
            obtain rfl : s11 = s5 := by rw [h5h] at HS5; exact hs3.out.trans HS5.out.symm
            clear hs3 HS5 h5h
            have hss : (s11.toList == s11.toList) = true := beq_self_eq_true _
            go_ret
            exact ⟨congrArg (fun b => Ending.returned (.bool b)) hss, hb04⟩
      | some b =>
        rw [hbl] at hm
        obtain ⟨bl, A3, c3, hbl3, rfl, ho3, i1, i2⟩ := hm
        have hrfew : ∀ r ∈ rs, r.length ≤ 2097152 := by
          intro r hr
          rw [HRS.out] at hr
          obtain ⟨x, hx, rfl⟩ := List.mem_map.1 hr
          exact HFEW.out x hx
        have hblen : bl.length ≤ 100000000 := by rw [hbl3.out]; exact build_len hbl hrfew (by rw [HRL.out]; exact hy44)
        have hbpos : 0 < bl.length := by
          rw [hbl3.out]
          unfold buildL at hbl
          split at hbl
          · injection hbl with hbl
            rw [← hbl, List.length_append, sumOf_length]
            omega
          · cases hbl
        have hP := Parse_calls A3 bl c3 w3 (Rd.of_own ho3) i1 i2 (by omega)
        rw [show parseL geS bl = some (ptsOf [] 0 rs) by rw [hbl3.out]; exact parse_build obj_few hbl] at hP
        have HP := Lib.hid hP
        have HN := Lib.hid (build_ok hbl).2.2
        have HO := Lib.hid (build_ok hbl).2.1
        obtain ⟨gb, rfl, hgb1, hgb2⟩ := own_at ho3 hbpos
        clear hP hbl hbl3
        go_wp2_with fail
        refine HP.out.mono ?_
        rintro e w4 ⟨hb4, g, ps, A4, c4, m, hps, rfl, hpk⟩
        have hb24 := hb3.next hb4
        have hrd4 := hrd2.below hb24
        have hrw4 := hrw2.below hb24
        have hb04 := hb03.next hb4
        have hs4 := hb4.size
        have ho34 := own_belowW ho3 hb4
        have HPK := Lib.hid hpk
        have hid : ptp ps = ptsOf [] 0 rs := hps.out
        have HID := Lib.hid hid
        have hnd : ((ptp ps).map (·.id)).Nodup := by rw [hid, pts_ids]; exact HN.out
        have HND := Lib.hid hnd
        have hpsz : ∀ x ∈ ps, x.p.raw.length ≤ 2097152 := by
          intro x hx
          have h1 : x.p.raw ∈ (ptp ps).map (·.raw) := List.mem_map.2 ⟨x.p, List.mem_map.2 ⟨x, hx, rfl⟩, rfl⟩
          rw [hid, pts_raws] at h1
          exact hrfew _ h1
        have HPZ := Lib.hid hpsz
        clear HP hrd2 hrw2 hpk hps hid hnd hpsz hrfew ho3
        obtain ⟨s5h, h5h⟩ : ∃ P, P = Hid (s5 = catS ys) := ⟨_, rfl⟩
        have HS5 : s5h := by rw [h5h]; exact hs3
        clear hs3
        go_wp2_with fail
        go_loop [11, 12] (fun o i => CatRel ys o i) (fun _ i => ys.length - (intOf i).toNat)
        case atStart => exact ⟨0, ⟨#[]⟩, rfl, rfl, Nat.zero_le _, by decide, rfl⟩
        case round =>
          obtain ⟨k, s, rfl, rfl, hk, hsz, hs⟩ := hrel
          have f1 : IntKind.i64.wrap ((k : Int) + 1) = (k : Int) + 1 := IntWalk.i64_in _ (by omega)
          by_cases h1 : k < ys.length
          · have d1 : decide ((k : Int) < (ys.length : Int)) = true := decide_eq_true (by omega)
            have d1' : (k : Int) < (ys.length : Int) := by omega
            have hk0 : (0 : Int) ≤ (k : Int) := by omega
            obtain ⟨x, hx⟩ : ∃ x, ys[k]? = some x := ⟨ys[k], List.getElem?_eq_getElem h1⟩
            obtain ⟨rb, ro, rfl, hrb, hcr⟩ := hrd4.at_ (by omega)
            have q2 := hcr k _ (rc_get hx)
            have v1 := conv8f (c := x.c) ((hrw4 x (List.mem_of_getElem? hx)).1)
            have hxl := HFEW.out x (List.mem_of_getElem? hx)
            have hs2 : Hid (s ++ (⟨x.l.toArray⟩ : ByteArray) = catS (ys.take (k + 1))) := by unfold Hid; rw [hs.out]; exact catS_succ hx
            obtain ⟨s', hs'⟩ : ∃ s', s' = s ++ (⟨x.l.toArray⟩ : ByteArray) := ⟨_, rfl⟩
            have hsz2 : s'.size ≤ (k + 1) * 2097152 := by rw [hs', ByteArray.size_append]; show s.size + x.l.toArray.size ≤ _; rw [List.size_toArray]; omega
            rw [← hs'] at hs2
            have ad : ∀ w', (Op.stringOp .add s ⟨x.l.toArray⟩).run Tryz.prog w' = .ok (.string s') w' := fun w' => by rw [hs']; exact run_string_add_sum w' _ _ (by show s.size + x.l.toArray.size ≤ 9223372036854775807; rw [List.size_toArray]; omega)
            clear hcr hx hs hs' hxl hsz
            go_wp2_with fail
            exact ⟨⟨k + 1, s', rfl, by go_num, by omega, hsz2, hs2⟩, by simp [intOf]; omega⟩
          · have d1 : decide ((k : Int) < (ys.length : Int)) = false := decide_eq_false (by omega)
            have d1' : ¬ (k : Int) < (ys.length : Int) := by omega
            have hs3 : Hid (s = catS ys) := by
              have hk9 : k = ys.length := by omega
              rw [hk9, List.take_length] at hs
              exact hs
            clear h1 hs f1 hsz
            obtain ⟨s11, h9⟩ : ∃ s9, s9 = s := ⟨_, rfl⟩
            rw [← h9] at hs3
            rw [← h9]
            clear h9
            go_wp2_with fail
            clear d1 d1' hk
            obtain rfl : s11 = s5 := by rw [h5h] at HS5; exact hs3.out.trans HS5.out.symm
            clear hs3 HS5 h5h
            have hgb4 : gb < w4.heap.size := by omega
            obtain ⟨nb, hnb⟩ : ∃ nb, nb = bl.length := ⟨_, rfl⟩
            obtain ⟨xb, hxb⟩ : ∃ xb, xb = bc bl := ⟨_, rfl⟩
            have hxb2 : Hid (∀ j, j < nb → ∃ x : Int, xb[j]? = some (.int .u8 x)) := by rw [hnb, hxb]; exact bc_bytes bl
            rw [← hxb, ← hnb] at ho34
            rw [← hnb]
            clear hxb
            go_loopw [13] (fun i wr => ByteRel 5 w2.heap.size gb nb c3 w4 i wr) (fun i _ => nb - (intOf i).toNat)
            case atStart => exact ⟨0, xb, rfl, Nat.zero_le _, ho34, hxb2, World.grownBy.refl _ _⟩
            case round =>
              obtain ⟨j, xs, rfl, hj, hown, hxs, hgr⟩ := hrel
              have f1 : IntKind.i64.wrap ((j : Int) + 1) = (j : Int) + 1 := IntWalk.i64_in _ (by omega)
              by_cases h4 : j < nb
              · have d3 : decide ((j : Int) < (nb : Int)) = true := decide_eq_true (by omega)
                have d3' : (j : Int) < (nb : Int) := by omega
                have hj0 : (0 : Int) ≤ (j : Int) := by omega
                obtain ⟨v, hv⟩ := hxs.out j h4
                obtain ⟨z, hz⟩ : ∃ z, (v + 1) % 256 = z := ⟨_, rfl⟩
                obtain ⟨o1, o2, o3, o4, o5, o6⟩ := own_set hown h4 (.int .u8 z)
                rw [hv] at o4
                have hxs2 := bytes_set (u := z) (by have := hown.1; omega) h4 hxs.out
                have HO := Lib.hid o1
                have HX2 := Lib.hid hxs2
                have HG2 := Lib.hid (hgr.trans o2)
                clear o1 o2 hxs2 hv hown hxs hgr o5 o6
                go_wp2_with fail
                exact ⟨⟨j + 1, _, by go_num, by omega, HO.out, HX2, HG2.out⟩, by simp [intOf]; omega⟩
              · have d3 : decide ((j : Int) < (nb : Int)) = false := decide_eq_false (by omega)
                have d3' : ¬ (j : Int) < (nb : Int) := by omega
                clear h4 hxs hown f1
                have hb45 : Below w2.heap.size w4 wr := below_of_grown hgr (by omega) (by omega)
                have hpk5 := HPK.out.keep (w' := wr) (fun k hk hlt => hgr.block k hlt (fun e => by injection e; omega)) hgr.size
                have hrd5 := hrd4.below hb45
                have hrw5 := hrw4.below hb45
                have hb05 := hb04.trans (below_of_grown hgr (by have := hb02.size; omega) hb04.size)
                have hb25 := hb24.trans hb45
                have hs5 := hgr.size
                obtain ⟨w5, hw5⟩ : ∃ w5, w5 = wr := ⟨_, rfl⟩
                rw [← hw5] at hpk5 hrd5 hrw5 hb05 hs5 ⊢
                clear hgr hb45 hrd4 hrw4 ho34 hxb2 HPK hb04 hb24 hb25 hw5 wr hj
                go_wp2_with fail
                clear d3 d3'
                go_loopw [14] (fun i wr => KeepRel2 ys.length w5 i wr) (fun i _ => ys.length - (intOf i).toNat)
                case atStart => exact ⟨0, rfl, Nat.zero_le _, Below.refl _ _⟩
                case round =>
                  obtain ⟨k, rfl, hk, hbel⟩ := hrel
                  have f1 : IntKind.i64.wrap ((k : Int) + 1) = (k : Int) + 1 := IntWalk.i64_in _ (by omega)
                  by_cases h1 : k < ys.length
                  · have d1 : decide ((k : Int) < (ys.length : Int)) = true := decide_eq_true (by omega)
                    have d1' : (k : Int) < (ys.length : Int) := by omega
                    have hk0 : (0 : Int) ≤ (k : Int) := by omega
                    have hw25 : w2.heap.size ≤ w5.heap.size := by omega
                    obtain ⟨x, hx⟩ : ∃ x, ys[k]? = some x := ⟨ys[k], List.getElem?_eq_getElem h1⟩
                    have hpl : ps.length = ys.length := by
                      rw [← HRL.out, ← pts_length rs [] 0, ← HID.out]; simp [ptp]
                    obtain ⟨p, hp⟩ : ∃ p, ps[k]? = some p := ⟨ps[k]'(by omega), List.getElem?_eq_getElem (by omega)⟩
                    obtain ⟨rb, ro, rfl, hrb, hcr⟩ := hrd5.at_ (by omega)
                    have hQ : ∀ W, Below w5.heap.size w5 W → W.cell? ⟨rb, ro + k, none⟩ = some (.slice x.A x.l.length x.c) := fun W hW => (hW.cell (p := ⟨rb, ro + k, none⟩) (by show rb < _; omega)).trans (hcr k _ (rc_get hx))
                    have q2 := hQ wr hbel
                    obtain ⟨x1, x2, x3⟩ := hrw5 x (List.mem_of_getElem? hx)
                    have hpp : (ptp ps)[k]? = some p.p := by simp [ptp, hp]
                    have hpid : p.p.id = sumOf x.l := by
                      have e1 : ((ptp ps).map (·.id))[k]? = some p.p.id := by rw [List.getElem?_map, hpp]; rfl
                      rw [HID.out, pts_ids, HRS.out] at e1
                      simpa [hx] using e1.symm
                    have hpraw : p.p.raw = x.l := by
                      have e1 : ((ptp ps).map (·.raw))[k]? = some p.p.raw := by rw [List.getElem?_map, hpp]; rfl
                      rw [HID.out, pts_raws, HRS.out] at e1
                      simpa [hx] using e1.symm
                    have hget : ∀ l6 : List UInt8, l6 = sumOf x.l → getP (ptp ps) ⟨l6.toArray⟩ = .ok x.l := fun l6 h => by
                      rw [← hpraw]
                      exact get_ownK HND.out (List.mem_of_getElem? hpp) (by rw [hpid, h]) (by show l6.toArray.size = 32; rw [List.size_toArray, h, sumOf_length])
                    have hxl : x.l.length ≤ 2097152 := HFEW.out x (List.mem_of_getElem? hx)
                    have hxpos : 0 < x.l.length := by
                      obtain ⟨a, t, e⟩ := obj_head (HO.out x.l (by rw [HRS.out]; exact List.mem_map.2 ⟨x, List.mem_of_getElem? hx, rfl⟩))
                      rw [e]; exact Nat.succ_pos _
                    have HS : Hid (∀ W, Below w5.heap.size w5 W → Calls Tryz.prog 17 #[.slice x.A x.l.length x.c] W fun e w' => ∃ l', Hid (l' = sumOf x.l) ∧ e = .returned (.string ⟨l'.toArray⟩) ∧ Below W.heap.size W w') :=
                      fun W hW => Sum_calls x.A x.l x.c W ((x1.belowW hW hw25).more (by have := hW.size; omega)) (by omega)
                    have HGA : Hid (∀ W, Below w5.heap.size w5 W → ∀ l6 : List UInt8, l6 = sumOf x.l → Calls Tryz.prog 16 #[.pointer (some ⟨g, 0, none⟩), .string ⟨l6.toArray⟩] W (RetGet W (.ok x.l))) := fun W hW l6 h6 => by
                      have hG := Get_calls (hpk5.below hW) ⟨l6.toArray⟩ (by show l6.toArray.size ≤ _; rw [List.size_toArray, h6, sumOf_length]; unfold maxLen; omega) (fun x hx => Nat.le_trans (HPZ.out x hx) (by omega))
                      rw [hget l6 h6] at hG
                      exact hG
                    have HQ := Lib.hid hQ
                    have HX := Lib.hid x1
                    clear hget hQ hcr hx hp hpp hpid hpraw x1 hpl hrd5 hrw5 hpk5
                    go_wp2_with fail
                    refine (HS.out wr hbel).mono ?_
                    rintro e w6 ⟨l6, hl6, rfl, hb6⟩
                    have hb56 := hbel.next hb6
                    have HGG := Lib.hid (HGA.out w6 hb56 l6 hl6.out)
                    clear hl6
                    go_wp2_with fail
                    refine HGG.out.mono ?_
                    rintro e w7 ⟨hb7, q, A7, c7, hq, rfl, ho7, i7, i8⟩
                    have hb57 := hb56.next hb7
                    have hql : q.length = x.l.length := by rw [hq.out]
                    have hqpos : 0 < q.length := by omega
                    obtain ⟨g7, rfl, hg71, hg72⟩ := own_at ho7 hqpos
                    have hs56 := hb56.size
                    obtain ⟨nq, hnq⟩ : ∃ nq, nq = q.length := ⟨_, rfl⟩
                    obtain ⟨xq, hxq⟩ : ∃ xq, xq = bc q := ⟨_, rfl⟩
                    have hxq2 : Hid (∀ j, j < nq → ∃ x : Int, xq[j]? = some (.int .u8 x)) := by rw [hnq, hxq]; exact bc_bytes q
                    have hnq2 : nq ≤ 2097152 := by omega
                    rw [← hxq, ← hnq] at ho7
                    rw [← hnq]
                    clear hxq HGG q2 hq hql hqpos hnq i7 i8 hnb
                    go_wp2_with fail
                    go_loopw [17] (fun i wr => ByteRel 5 w6.heap.size g7 nq c7 w7 i wr) (fun i _ => nq - (intOf i).toNat)
                    case atStart => exact ⟨0, xq, rfl, Nat.zero_le _, ho7, hxq2, World.grownBy.refl _ _⟩
                    case round =>
                      obtain ⟨j, xs, rfl, hj, hown, hxs, hgr⟩ := hrel
                      have f1 : IntKind.i64.wrap ((j : Int) + 1) = (j : Int) + 1 := IntWalk.i64_in _ (by omega)
                      by_cases h4 : j < nq
                      · have d3 : decide ((j : Int) < (nq : Int)) = true := decide_eq_true (by omega)
                        have d3' : (j : Int) < (nq : Int) := by omega
                        have hj0 : (0 : Int) ≤ (j : Int) := by omega
                        obtain ⟨v, hv⟩ := hxs.out j h4
                        obtain ⟨z, hz⟩ : ∃ z, (v + 1) % 256 = z := ⟨_, rfl⟩
                        obtain ⟨o1, o2, o3, o4, o5, o6⟩ := own_set hown h4 (.int .u8 z)
                        rw [hv] at o4
                        have hxs2 := bytes_set (u := z) (by have := hown.1; omega) h4 hxs.out
                        have HO := Lib.hid o1
                        have HX2 := Lib.hid hxs2
                        have HG2 := Lib.hid (hgr.trans o2)
                        clear o1 o2 hxs2 hv hown hxs hgr o5 o6
                        go_wp2_with fail
                        exact ⟨⟨j + 1, _, by go_num, by omega, HO.out, HX2, HG2.out⟩, by simp [intOf]; omega⟩
                      · have d3 : decide ((j : Int) < (nq : Int)) = false := decide_eq_false (by omega)
                        have d3' : ¬ (j : Int) < (nq : Int) := by omega
                        clear h4 hxs hown f1
                        have hb5r := hb57.trans (below_of_grown hgr (by omega) hb57.size)
                        have q2 := HQ.out _ hb5r
                        clear hgr ho7 hxq2 hj
                        go_wp2_with fail
                        clear d3 d3'
                        refine (HS.out _ hb5r).mono ?_
                        rintro e w8 ⟨l8, hl8, rfl, hb8⟩
                        have hb58 := hb5r.next hb8
                        have HGG := Lib.hid (HGA.out w8 hb58 l8 hl8.out)
                        clear hl8 q2
                        go_wp2_with fail
                        refine HGG.out.mono ?_
                        rintro e w9 ⟨hb9, q9, A9, c9, hq9, rfl, ho9, _, _⟩
                        have hb59 := hb58.next hb9
                        have E9 : Hid (q9 = x.l) := hq9
                        have q5 := HQ.out _ hb59
                        have cv1 : (convert 25 9 (.slice A9 q9.length c9)).run Tryz.prog w9.drew = .ok (.string ⟨q9.toArray⟩) w9.drew := conv8f (Rd.of_own ho9).drew
                        have cv2 : (convert 25 9 (.slice x.A x.l.length x.c)).run Tryz.prog w9.drew = .ok (.string ⟨x.l.toArray⟩) w9.drew := conv8f (HX.out.belowW hb59 hw25).drew
                        clear HGG hq9 ho9
                        go_wp2_with fail
                        refine wp_region_held_drew (S := fun W => W.cell? ⟨rb, ro + k, none⟩ = some (.slice x.A x.l.length x.c) ∧ (convert 25 9 (.slice A9 q9.length c9)).run Tryz.prog W = .ok (.string ⟨q9.toArray⟩) W ∧ (convert 25 9 (.slice x.A x.l.length x.c)).run Tryz.prog W = .ok (.string ⟨x.l.toArray⟩) W) (by kernel_rfl) (⟨q5, cv1, cv2⟩) (fun hHeld => ?_)
                        refine wpAnyH_take (i := 0) (oi := _) (v := .int .i64 0) rfl (by kernel_rfl) (by kernel_rfl) (by kernel_rfl) (fun _ _ _ h => h) (Or.inl ⟨by rfl, fun w9 hS => ?_⟩) hHeld ?_
                        · obtain ⟨s1, s2, s3⟩ := hS
                          go_simp
                        try simp only [Act.put, List.setIfInBounds_toArray, List.set_cons_zero, List.set_cons_succ, List.getElem_toArray, List.getElem_cons_zero]
                        refine wpAnyH_take (i := 1) (oi := _) (v := .bool false) rfl (by kernel_rfl) (by kernel_rfl) (by kernel_rfl) (fun _ _ _ h => h) (Or.inl ⟨by rfl, fun w9 hS => ?_⟩) hHeld ?_
                        · obtain ⟨s1, s2, s3⟩ := hS
                          go_simp
                        try simp only [Act.put, List.setIfInBounds_toArray, List.set_cons_zero, List.set_cons_succ, List.getElem_toArray, List.getElem_cons_succ, List.getElem_cons_zero]
                        refine wpAnyH_take (i := 2) (oi := _) (v := .bool false) rfl (by kernel_rfl) (by kernel_rfl) (by kernel_rfl) (fun _ _ _ h => h) (Or.inl ⟨by rfl, fun w9 hS => ?_⟩) hHeld ?_
                        · obtain ⟨s1, s2, s3⟩ := hS
                          go_simp
                        try simp only [Act.put, List.setIfInBounds_toArray, List.set_cons_zero, List.set_cons_succ, List.getElem_toArray, List.getElem_cons_succ, List.getElem_cons_zero]
                        refine wpAnyH_take (i := 3) (oi := _) (v := .slice A9 q9.length c9) rfl (by kernel_rfl) (by kernel_rfl) (by kernel_rfl) (fun _ _ _ h => h) (Or.inl ⟨by rfl, fun w9 hS => ?_⟩) hHeld ?_
                        · obtain ⟨s1, s2, s3⟩ := hS
                          go_simp
                        try simp only [Act.put, List.setIfInBounds_toArray, List.set_cons_zero, List.set_cons_succ, List.getElem_toArray, List.getElem_cons_succ, List.getElem_cons_zero]
                        refine wpAnyH_take (i := 4) (oi := _) (v := .string ⟨q9.toArray⟩) rfl (by kernel_rfl) (by kernel_rfl) (by kernel_rfl) (fun _ _ _ h => h) (Or.inl ⟨by rfl, fun w9 hS => ?_⟩) hHeld ?_
                        · obtain ⟨s1, s2, s3⟩ := hS
                          go_simp
                        try simp only [Act.put, List.setIfInBounds_toArray, List.set_cons_zero, List.set_cons_succ, List.getElem_toArray, List.getElem_cons_succ, List.getElem_cons_zero]
                        refine wpAnyH_take (i := 5) (oi := _) (v := .slice (some ⟨rb, ro, none⟩) ys.length c2) rfl (by kernel_rfl) (by kernel_rfl) (by kernel_rfl) (fun _ _ _ h => h) (Or.inl ⟨by rfl, fun w9 hS => ?_⟩) hHeld ?_
                        · obtain ⟨s1, s2, s3⟩ := hS
                          go_simp
                        try simp only [Act.put, List.setIfInBounds_toArray, List.set_cons_zero, List.set_cons_succ, List.getElem_toArray, List.getElem_cons_succ, List.getElem_cons_zero]
                        refine wpAnyH_take (i := 6) (oi := _) (v := .int .i64 (k : Int)) rfl (by kernel_rfl) (by kernel_rfl) (by kernel_rfl) (fun _ _ _ h => h) (Or.inl ⟨by rfl, fun w9 hS => ?_⟩) hHeld ?_
                        · obtain ⟨s1, s2, s3⟩ := hS
                          go_simp
                        try simp only [Act.put, List.setIfInBounds_toArray, List.set_cons_zero, List.set_cons_succ, List.getElem_toArray, List.getElem_cons_succ, List.getElem_cons_zero]
                        refine wpAnyH_take (i := 7) (oi := _) (v := .pointer (some ⟨rb, ro + k, none⟩)) rfl (by kernel_rfl) (by kernel_rfl) (by kernel_rfl) (fun _ _ _ h => h) (Or.inl ⟨by rfl, fun w9 hS => ?_⟩) hHeld ?_
                        · obtain ⟨s1, s2, s3⟩ := hS
                          go_simp
                        try simp only [Act.put, List.setIfInBounds_toArray, List.set_cons_zero, List.set_cons_succ, List.getElem_toArray, List.getElem_cons_succ, List.getElem_cons_zero]
                        refine wpAnyH_take (i := 8) (oi := _) (v := .slice x.A x.l.length x.c) rfl (by kernel_rfl) (by kernel_rfl) (by kernel_rfl) (fun _ _ _ h => h) (Or.inl ⟨by rfl, fun w9 hS => ?_⟩) hHeld ?_
                        · obtain ⟨s1, s2, s3⟩ := hS
                          go_simp
                        try simp only [Act.put, List.setIfInBounds_toArray, List.set_cons_zero, List.set_cons_succ, List.getElem_toArray, List.getElem_cons_succ, List.getElem_cons_zero]
                        refine wpAnyH_take (i := 9) (oi := _) (v := .string ⟨x.l.toArray⟩) rfl (by kernel_rfl) (by kernel_rfl) (by kernel_rfl) (fun _ _ _ h => h) (Or.inl ⟨by rfl, fun w9 hS => ?_⟩) hHeld ?_
                        · obtain ⟨s1, s2, s3⟩ := hS
                          go_simp
                        try simp only [Act.put, List.setIfInBounds_toArray, List.set_cons_zero, List.set_cons_succ, List.getElem_toArray, List.getElem_cons_succ, List.getElem_cons_zero]
                        refine wpAnyH_take (i := 10) (oi := _) (v := .bool false) rfl (by kernel_rfl) (by kernel_rfl) (by kernel_rfl) (fun _ _ _ h => h) (Or.inl ⟨by rfl, fun w9 hS => ?_⟩) hHeld ?_
                        · obtain ⟨s1, s2, s3⟩ := hS
                          go_simp <;> exact E9.out
                        try simp only [Act.put, List.setIfInBounds_toArray, List.set_cons_zero, List.set_cons_succ, List.getElem_toArray, List.getElem_cons_succ, List.getElem_cons_zero]
                        refine wpAnyH_take (i := 11) (oi := _) (v := .bool false) rfl (by kernel_rfl) (by kernel_rfl) (by kernel_rfl) (fun _ _ _ h => h) (Or.inl ⟨by rfl, fun w9 hS => ?_⟩) hHeld ?_
                        · obtain ⟨s1, s2, s3⟩ := hS
                          go_simp
                        try simp only [Act.put, List.setIfInBounds_toArray, List.set_cons_zero, List.set_cons_succ, List.getElem_toArray, List.getElem_cons_succ, List.getElem_cons_zero]
                        refine wpAnyH_done (by kernel_rfl) ?_ _
                        go_wp2_with fail
                        exact ⟨⟨k + 1, by go_num, by omega, hb59.drew⟩, by simp [intOf]; omega⟩
                  · have d1 : decide ((k : Int) < (ys.length : Int)) = false := decide_eq_false (by omega)
                    have d1' : ¬ (k : Int) < (ys.length : Int) := by omega
                    clear h1 hpk5 hrd5 hrw5
                    go_wp2_with fail
                    have hss : (s11.toList == s11.toList) = true := beq_self_eq_true _
                    go_ret
                    exact ⟨rfl, hb05.next hbel⟩
end Go.Proofs.YtnaakfnbmeimaaaGreat
