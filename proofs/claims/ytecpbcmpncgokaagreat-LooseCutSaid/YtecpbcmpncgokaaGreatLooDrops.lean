/- The walk of the law LooseDrops: what is dropped is gone. Conditions: objects that read. -/
import Derived.Test.YtecpbcmpncgokaaGreatLooHolds
namespace Go.Proofs.YtecpbcmpncgokaaGreat
open Go.RowKit Go.Dol
set_option linter.unusedVariables false
theorem same_t (A : Option Addr) (a : List ByteArray) (c : Nat) (A2 : Option Addr) (b : List ByteArray) (c2 : Nat) (w : World) (B : Nat) (hr : Rd w B 1 A a.length (sc a)) (hr2 : Rd w B 1 A2 b.length (sc b)) (ha : a.length ≤ 140737488355328) (hb : b.length ≤ 140737488355328) (hv : Hid (a = b)) :
    Calls Tryz.prog 20 #[.slice A a.length c, .slice A2 b.length c2] w fun e w' => e = .returned (.bool true) ∧ ∃ n, w' = w.drewN n :=
  (SameTexts_calls A a c A2 b c2 w B B hr hr2 ha hb).mono fun e w' ⟨u, n, h1, h2, h3⟩ => ⟨by rw [h1, show u = true from h2.2 hv.out], n, h3⟩
theorem HoOk.lean {D : Dk} {k : Nat} {ps : List (List UInt8)} (h : HoOk D k ps) : HoOk D k [] := ⟨h.calm, h.fo, h.room, fun p hp => (List.not_mem_nil hp).elim⟩
/-- What the law does behind the puts. -/
theorem drops_law {D : Dk} {k : Nat} (h : HoOk D k []) (hk : k ≤ 30) {id : ByteArray} (hm : id ∈ idsO D) : ∃ raw D' D'', isObjL geS raw = true ∧ getO geS D id = .ok raw ∧ dropO D id = (0, D') ∧ OkD D' ∧ getO geS D' id = .error 6 ∧ (∀ x ∈ idsO D', x ≠ id ∧ x.size = 32 ∧ ∃ r, getO geS D' x = .ok r) ∧
    (idsO D').length + 1 = (idsO D).length ∧ putO geS D' raw = (.ok id, D'') ∧ OkD D'' ∧ idsO D'' = idsO D := by
  have ho := h.calm.ok.ord
  obtain ⟨h32, hl⟩ := (idsO_mem ho).1 hm
  rcases h.fo.get ho h32 with ⟨e, _⟩ | ⟨raw, h1, hid, hlk, hg⟩
  · rw [e] at hl
    cases hl
  have hp := press_few h1
  have hroom := h.room
  obtain ⟨D', e1, c1, f1, _, l1, g1, o1, r1⟩ := drop_good h.calm h.fo h32 hlk
  have hlen := drop_one ho hlk
  rcases put_good c1 f1 h1 (by omega) with ⟨b, _, e, _⟩ | ⟨e, _⟩ | ⟨D'', _, e2, c2, f2, _, l2, _, g2, _⟩
  · rw [← hid, g1] at e
    cases e
  · rw [← hid, g1] at e
    cases e
  · refine ⟨raw, D', D'', h1, hg, e1, c1.ok, g1, fun x hx => ?_, ?_, by rw [hid]; exact e2, c2.ok, ?_⟩
    · obtain ⟨x32, xl⟩ := (idsO_mem c1.ok.ord).1 hx
      have hne : x ≠ id := fun e => by
        rw [e, l1, look_drop ho, if_pos rfl] at xl
        cases xl
      refine ⟨hne, x32, ?_⟩
      rcases f1.get c1.ok.ord x32 with ⟨e, _⟩ | ⟨r, _, _, _, hr⟩
      · rw [e] at xl
        cases xl
      · exact ⟨r, hr⟩
    · rw [f1.idsLen, h.fo.idsLen, l1]
      exact hlen
    · unfold idsO
      rw [l2, ← hid, l1, put_back ho hlk]
def DrRel (l : List ObA) (M g m : Nat) (w : World) (i : Value) (wr : World) : Prop :=
  ∃ (k : Nat) (D : Dk), i = .int .i64 k ∧ k ≤ l.length ∧ k ≤ M ∧ Dsk wr g m D ∧ HoOk D k [] ∧ Below w.heap.size w wr
/-- The rounds of a loop that only looks. -/
def LkRel (n : Nat) (w : World) (i : Value) (wr : World) : Prop := ∃ k : Nat, i = .int .i64 k ∧ k ≤ n ∧ Below w.heap.size w wr
set_option maxRecDepth 100000 in
set_option maxHeartbeats 6400000 in
theorem looseDrops_walk (A : Option Addr) (l : List ObA) (c : Nat) (iX : Int) (w : World) (hr : Rd w w.heap.size 10 A l.length (oc l)) (hos : Obs w w.heap.size l) (hl : l.length ≤ 140737488351232) (wi : (Lit.int .i64 iX).wf = true) :
    Calls Tryz.prog 6 #[.slice A l.length c, .int .i64 iX] w fun e w' => e = .returned (.bool true) ∧ Below w.heap.size w w' := by
  have HA := Lib.hid (awake7_calls w)
  go_enter Tryz.func6, Tryz.ntmps6
  go_wp2_with fail
  refine HA.out.mono ?_
  rintro e w1 ⟨rfl, hb1⟩
  go_wp2_with fail
  refine (DNew_calls 1099511627776 w1 (by omega) (by omega)).mono ?_
  rintro e w2 ⟨g, m, rfl, hD2, hg2, hm2, hb2⟩
  have hb02 := hb1.next hb2
  have hs1 := hb1.size
  have hgw : w.heap.size ≤ g := by omega
  have hmw : w.heap.size ≤ m := by omega
  have hO2 : HoOk (newD 1099511627776) 0 [] := ⟨newD_calm _ (by omega) (by omega), newD_FO _, by rw [newD_free _ (by omega) (by omega)]; omega, fun p hp => (List.not_mem_nil hp).elim⟩
  clear HA
  go_wp2_with fail
  go_loopw [8] (fun i wr => DrRel l 30 g m w i wr) (fun i _ => l.length - (intOf i).toNat)
  case atStart => exact ⟨0, _, rfl, Nat.zero_le _, Nat.zero_le _, hD2, hO2, hb02⟩
  case round =>
    clear hD2 hO2 hb02 hb1 hb2 hs1
    obtain ⟨k, D, rfl, hk, hk30, hD, hO, hb⟩ := hrel
    have hs := hb.size
    have f1 : IntKind.i64.wrap ((k : Int) + 1) = (k : Int) + 1 := IntWalk.i64_in _ (by omega)
    by_cases h1 : k < l.length ∧ k < 30
    · obtain ⟨h1, h2⟩ := h1
      have d1 : decide ((k : Int) < (l.length : Int)) = true := decide_eq_true (by omega)
      have d1' : (k : Int) < (l.length : Int) := by omega
      have d2 : decide ((k : Int) < 30) = true := decide_eq_true (by omega)
      have d2' : (k : Int) < 30 := by omega
      have hk0 : (0 : Int) ≤ (k : Int) := by omega
      obtain ⟨x, hx⟩ : ∃ x, l[k]? = some x := ⟨l[k], List.getElem?_eq_getElem h1⟩
      obtain ⟨bb, off, rfl, hbb, hcell⟩ := (hr.below hb).at_ (by omega)
      obtain ⟨x1, x2, x3, x4, x5, x6⟩ := hos x (List.mem_of_getElem? hx)
      obtain ⟨q0, q1, q2, q3, q4, q5, q6, q7, q8, q9⟩ := obs_cells hcell hx
      have HE := Lib.hid (Encode_calls x.k x.Ad x.d x.cd x.Ae x.en x.ce x.tr x.Ap x.pa x.cp x.ta x.na x.wh x.st x.te wr ((x1.below hb).more hs) ((x2.below hb).more hs) ((x3.below hb).more hs) x4 x5 (Lib.hid x6.out.2))
      clear hcell hx x1 x2 x3 x4 x5 x6
      go_wp2_with fail
      refine HE.out.mono ?_
      rintro e w4 ⟨hb4, ⟨hc, raw, A4, c4, el, rfl, ho4⟩ | ⟨hc, rfl⟩⟩
      · have hobj : isObjL geS raw = true := by rw [el.out]; unfold isObjL; rw [dec_enc hc]; rfl
        have hfew := obj_few raw hobj
        have hol := own_le ho4
        have hD4 := hD.below hb4
        have hb04 := hb.next hb4
        have hP := PutO_calls hD4 hO.calm.ok.toW (by have := hO.calm.ok.lenW; omega) A4 raw c4 (Rd.of_own ho4) hol.1 hol.2 (by omega)
        obtain ⟨v, D', he, hO5⟩ : ∃ v D', putO geS D raw = (v, D') ∧ HoOk D' (k + 1) [] := by
          rcases hO.put h2 hobj with ⟨he, hO5⟩ | ⟨D', he, hO5⟩
          · exact ⟨_, _, he, hO5⟩
          · exact ⟨_, _, he, hO5.lean⟩
        rw [he] at hP
        have HP := Lib.hid hP
        clear HE hc el hP he hO
        go_wp2_with fail
        refine HP.out.mono ?_
        rintro e w5 ⟨rfl, hD5, ht5⟩
        have hb05 := Tw.new hb04 ht5 hgw hmw
        go_wp2_with fail
        exact ⟨⟨k + 1, D', by go_num, by omega, by omega, hD5, hO5, hb05⟩, by simp [intOf]; omega⟩
      · clear HE
        go_wp2_with fail
        exact ⟨⟨k + 1, D, by go_num, by omega, by omega, hD.below hb4, hO.next, hb.next hb4⟩, by simp [intOf]; omega⟩
    · have hfin : ¬ ((k : Int) < (l.length : Int) ∧ (k : Int) < 30) := fun h => h1 ⟨by omega, by omega⟩
      go_upto_region 4 with (fail)
      go_cut [36] (fun v wx => v = .bool false ∧ wx = wr)
      case first =>
        by_cases hkl : k < l.length
        · have d1 : decide ((k : Int) < (l.length : Int)) = true := decide_eq_true (by omega)
          have d1' : (k : Int) < (l.length : Int) := by omega
          have d2 : decide ((k : Int) < 30) = false := decide_eq_false (by omega)
          have d2' : ¬ (k : Int) < 30 := by omega
          clear hfin h1
          go_wp2_with fail
          go_meet
          exact ⟨rfl, rfl⟩
        · have d1 : decide ((k : Int) < (l.length : Int)) = false := decide_eq_false (by omega)
          have d1' : ¬ (k : Int) < (l.length : Int) := by omega
          clear hfin h1
          go_wp2_with fail
          go_meet
          exact ⟨rfl, rfl⟩
      case rest =>
      obtain ⟨rfl, hwx⟩ := hcut
      obtain rfl := hwx.symm
      have HI := Lib.hid (IdsO_calls hD hO.calm.ok.toW)
      clear hfin h1 f1 hk hr hos hl
      go_wp2_with fail
      refine HI.out.mono ?_
      rintro e w3 ⟨xs, A3, c3, hxs, rfl, ho3, hb3⟩
      have hD3 := hD.below hb3
      have hb03 := hb.next hb3
      have hs3 := hb03.size
      clear HI
      by_cases hn : xs.length = 0
      · have d3 : ((xs.length : Int) == 0) = true := by rw [hn]; rfl
        clear hn
        go_wp2_with fail
        go_ret
        exact ⟨rfl, hb03⟩
      · have d3 : ((xs.length : Int) == 0) = false := beq_eq_false_iff_ne.2 (by omega)
        obtain ⟨b, hbe⟩ : ∃ b, b = bits .and .i64 iX 65535 := ⟨_, rfl⟩
        have hbr := mask_rng iX 16 65535 (by decide) (by decide)
        rw [← hbe] at hbr
        obtain ⟨j, hj⟩ : ∃ j : Nat, (j : Int) = b % (xs.length : Int) := ⟨(b % (xs.length : Int)).toNat, Int.toNat_of_nonneg (Int.emod_nonneg b (by omega))⟩
        have hjl : j < xs.length := by
          have h9 := Int.emod_lt_of_pos b (b := (xs.length : Int)) (by omega)
          rw [← hj] at h9
          omega
        have r1 : b % (xs.length : Int) = (j : Int) := hj.symm
        have r2 : b.tmod (xs.length : Int) = (j : Int) := by rw [Int.tmod_eq_emod_of_nonneg hbr.1]; exact hj.symm
        have hbe2 := hbe.symm
        have hj0 : (0 : Int) ≤ (j : Int) := by omega
        have hjl' : (j : Int) < (xs.length : Int) := by omega
        obtain ⟨id, hid⟩ : ∃ id, xs[j]? = some id := ⟨xs[j], List.getElem?_eq_getElem hjl⟩
        obtain ⟨bb, off, hA3, hbb, hcell⟩ := (Rd.of_own ho3).at_ (by omega)
        have q0 : w3.cell? ⟨bb, off + j, none⟩ = some (.string id) := hcell _ _ (by rw [sc, List.getElem?_map, hid]; rfl)
        obtain ⟨raw, D', D'', p1, p2, p3, p4, p5, p6, p7, p8, p9, p10⟩ := drops_law hO hk30 (by rw [← hxs.out]; exact List.mem_of_getElem? hid)
        have hi32 : id.size = 32 := ((idsO_mem hO.calm.ok.ord).1 (by rw [← hxs.out]; exact List.mem_of_getElem? hid)).1
        have hG := GetO_calls hD3 hO.calm.ok.toW id (by omega)
        rw [p2] at hG
        have HG := Lib.hid hG
        have hKW := hO.calm.ok.toW
        have hfew := obj_few raw p1
        have HXS := Lib.hid hxs
        have hxb : xs.length ≤ 68719476736 := by rw [hxs.out, hO.fo.idsLen]; exact hO.calm.ok.lenW
        subst hA3
        have P6 := Lib.hid p6
        have P7 := Lib.hid p7
        have P10 := Lib.hid p10
        clear hj hbe hbr hid hcell hO hG p2 p1 hn p6 p7 p10 hxs
        go_wp2_with fail
        refine HG.out.mono ?_
        rintro e w4 ⟨hb4, q, A4, c4, hq, rfl, ho4, hc4, hcm4⟩
        have hD4 := hD3.below hb4
        have hb04 := hb03.next hb4
        have hDr := DropO_calls hD4 hKW id (by omega)
        rw [p3] at hDr
        have HDr := Lib.hid hDr
        obtain rfl : q = raw := hq.out
        clear hDr p3 HG q0 hq
        go_wp2_with fail
        refine HDr.out.mono ?_
        rintro e w5 ⟨rfl, hD5, ht5⟩
        have hb05 := Tw.new hb04 ht5 hgw hmw
        have ho5 := own_tw hD4 ht5 ho4 (by decide)
        have ho35 := own_tw hD4 ht5 (own_belowW ho3 hb4) (by decide)
        have hG := GetO_calls hD5 p4.toW id (by omega)
        rw [p5] at hG
        have HG := Lib.hid hG
        clear hG p5 HDr
        go_wp2_with fail
        refine HG.out.mono ?_
        rintro e w6 ⟨hb6, hm6⟩
        obtain rfl := hm6
        have hD6 := hD5.below hb6
        have HI := Lib.hid (IdsO_calls hD6 p4.toW)
        clear HG
        go_wp2_with fail
        refine HI.out.mono ?_
        rintro e w7 ⟨ys, A7, c7, hys, rfl, ho7, hb7⟩
        have hD7 := hD6.below hb7
        have hb07 := (hb05.next hb6).next hb7
        have hb57 := hb6.next hb7
        have hyl : ys.length + 1 = xs.length := by rw [hys.out, HXS.out]; exact P7.out
        clear HI
        go_wp2_with fail
        go_loopw [19] (fun i wq => LkRel ys.length w7 i wq) (fun i _ => ys.length - (intOf i).toNat)
        case atStart => exact ⟨0, rfl, Nat.zero_le _, Below.refl _ _⟩
        case round =>
          obtain ⟨k2, rfl, hk2, hbq⟩ := hrel
          have f1 : IntKind.i64.wrap ((k2 : Int) + 1) = (k2 : Int) + 1 := IntWalk.i64_in _ (by omega)
          have hDq := hD7.below hbq
          by_cases h1 : k2 < ys.length
          · have d1 : decide ((k2 : Int) < (ys.length : Int)) = true := decide_eq_true (by omega)
            have d1' : (k2 : Int) < (ys.length : Int) := by omega
            have hk20 : (0 : Int) ≤ (k2 : Int) := by omega
            obtain ⟨y, hy⟩ : ∃ y, ys[k2]? = some y := ⟨ys[k2], List.getElem?_eq_getElem h1⟩
            obtain ⟨y1, y2, r, y3⟩ := P6.out y (by rw [← hys.out]; exact List.mem_of_getElem? hy)
            obtain ⟨b7, o7, hA7, hbb7, hc7'⟩ := (Rd.of_own ho7).at_ (by omega)
            subst hA7
            have q0 : w7.cell? ⟨b7, o7 + k2, none⟩ = some (.string y) := hc7' _ _ (by rw [sc, List.getElem?_map, hy]; rfl)
            have q1 := (hbq.cell (p := ⟨b7, o7 + k2, none⟩) hbb7).trans q0
            have hG := GetO_calls hDq p4.toW y (by omega)
            rw [y3] at hG
            have HG := Lib.hid hG
            have z1 : (y.toList == id.toList) = false := str_ne_b' y1
            clear hc7' hy y1 y3 hG q0
            go_wp2_with fail
            refine HG.out.mono ?_
            rintro e w8 ⟨hb8, q8, A8, c8, hq8, rfl, _⟩
            have q2 := (hb8.cell (p := ⟨b7, o7 + k2, none⟩) (by have := hbq.size; show b7 < _; omega)).trans q1
            clear HG q1
            go_wp2_with fail
            exact ⟨⟨k2 + 1, by go_num, by omega, hbq.next hb8⟩, by simp [intOf]; omega⟩
          · have d1 : decide ((k2 : Int) < (ys.length : Int)) = false := decide_eq_false (by omega)
            have d1' : ¬ (k2 : Int) < (ys.length : Int) := by omega
            have hbw := hb07.next hbq
            have hP := PutO_calls hDq p4.toW (by have := p4.lenW; omega) A4 q c4 (Rd.of_own (own_belowW (own_belowW ho5 hb57) hbq)) hc4 hcm4 (by omega)
            rw [p8] at hP
            have HP := Lib.hid hP
            have e1 : IntKind.i64.wrap ((xs.length : Int) - 1) = (ys.length : Int) := by rw [IntWalk.i64_in _ (by omega)]; omega
            have HY := Lib.hid hyl
            clear hP p8 h1 hyl
            go_wp2_with fail
            refine HP.out.mono ?_
            intro e w8 h9
            obtain ⟨rfl, hD8, ht8⟩ := h9.ok
            have hbw8 := Tw.new hbw ht8 hgw hmw
            have ho38 := own_tw hDq ht8 (own_belowW (own_belowW ho35 hb57) hbq) (by decide)
            have HI := Lib.hid (IdsO_calls hD8 p9.toW)
            have hxl : xs.length ≤ 140737488355328 := by omega
            clear HP
            go_wp2_with (first
              | (go_at_call 46; (with_reducible refine HI.out.mono ?_); rintro e w9 ⟨zs, A9, c9, hzs, rfl, ho9, hb9⟩
                 have hzx : Hid (zs = xs) := by unfold Hid; rw [hzs.out, HXS.out]; exact P10.out
                 have hzl : zs.length ≤ 140737488355328 := by rw [hzx.out]; exact hxl
                 have HT := Lib.hid (same_t A9 zs c9 _ xs c3 w9 w9.heap.size (Rd.of_own ho9) (Rd.of_own (own_belowW ho38 hb9)) hzl hxl hzx))
              | (go_at_call 20; (with_reducible refine HT.out.mono ?_); rintro e w10 ⟨rfl, nq, hw10⟩))
            go_ret
            exact ⟨rfl, (hbw8.next hb9).drewN' nq⟩
end Go.Proofs.YtecpbcmpncgokaaGreat
