/- The walk of the law LooseCut: whole or not there, wherever the power goes. Conditions: objects that read. -/
import Derived.Test.YtecpbcmpncgokaaGreatLooDrops
namespace Go.Proofs.YtecpbcmpncgokaaGreat
open Go.RowKit Go.Dol
set_option linter.unusedVariables false
theorem putR_form (v : Except Int ByteArray) : ∃ s k, putR v = .tuple #[.string s, .int .i64 k] ∧ ((∃ id, v = .ok id ∧ k = 0) ∨ v = .error k) := by
  cases v with
  | ok id => exact ⟨id, 0, rfl, .inl ⟨id, rfl, rfl⟩⟩
  | error k => exact ⟨⟨#[]⟩, k, rfl, .inr rfl⟩
/-- What the law does behind the puts. -/
theorem cut_law {D : Dk} {k : Nat} (h : HoOk D k []) (hk : k ≤ 10) {raw : List UInt8} (h1 : isObjL geS raw = true) (c : Int) (hc0 : 0 ≤ c) (hc : c ≤ 63) :
    (putO geS (cutD D c).2 raw).1 = .error 7 ∨ ∃ v E S D2, putO geS (cutD D c).2 raw = (v, E) ∧ OkD (onD E) ∧ (getO geS (onD E) (idO raw) = .ok raw ∨ getO geS (onD E) (idO raw) = .error 6 ∧ ∃ j, v = .error j ∧ j ≠ 7 ∧ j ≠ 0) ∧
      (∀ x ∈ idsO D, x.size = 32 ∧ ∃ r, getO geS (onD E) x = .ok r) ∧ sweepD (onD E) = (0, S) ∧ OkD S ∧ putO geS S raw = (.ok (idO raw), D2) ∧ OkD D2 ∧ (idsO D2).length ≤ (idsO D).length + 1 := by
  have ho := h.calm.ok.ord
  have hp := press_few h1
  have h32 := idO_size raw
  rcases cut_good h.calm h.fo h1 c hc0 hc with ⟨e, _⟩ | ⟨E, e1, e2, _, e4, e5, e6, S, s1, s2, s3, s4, s5⟩
  · exact .inl e
  · refine .inr ?_
    obtain ⟨v, hv⟩ : ∃ v, v = (putO geS (cutD D c).2 raw).1 := ⟨_, rfl⟩
    rw [← hv] at e4
    have hsame : S.l = D.l → getO geS S (idO raw) = getO geS D (idO raw) := fun e => get_same (by rw [e])
    have hroom : 83 + ((pressL raw).length : Int) ≤ frD S := by
      have hr := h.room
      rw [s2.free, s4]
      rw [h.calm.free] at hr
      have hco : costs S.l ≤ costs D.l + 2621600 := by
        rcases s5 with e | e
        · rw [e]
          omega
        · rw [e, costs_putF ho, nameO_size, h32]
          cases lookF D.l (nameO (idO raw)) with
          | none => simp only; omega
          | some q => simp only; omega
      omega
    obtain ⟨D2, p1, p2, p3⟩ : ∃ D2, putO geS S raw = (.ok (idO raw), D2) ∧ OkD D2 ∧ (idsO D2).length ≤ (idsO D).length + 1 := by
      rw [h.fo.idsLen]
      rcases put_good s2 s3 h1 hroom with ⟨b, hb, hg, _⟩ | ⟨hg, e⟩ | ⟨D2, hg, e, c1, c2, _, c4, c5, _⟩
      · exfalso
        rcases s5 with e | e
        · rw [hsame e] at hg
          exact hb (e6 b hg).1
        · rw [get_at h1 rfl (by rw [e, look_put ho, if_pos rfl])] at hg
          injection hg with hg
          exact hb hg.symm
      · refine ⟨S, e, s2.ok, ?_⟩
        rw [s3.idsLen]
        rcases s5 with e | e
        · rw [e]
          omega
        · rw [e, put_len]
          split <;> omega
      · refine ⟨D2, e, c1.ok, ?_⟩
        rw [c2.idsLen, c4]
        rcases s5 with e9 | e9
        · rw [e9, put_len]
          split <;> omega
        · rw [get_at h1 rfl (by rw [e9, look_put ho, if_pos rfl])] at hg
          cases hg
    refine ⟨v, E, S, D2, by rw [hv, ← e1], e2, e4, fun x hx => ?_, s1, s2.ok, p1, p2, p3⟩
    obtain ⟨x32, xl⟩ := (idsO_mem ho).1 hx
    refine ⟨x32, ?_⟩
    rcases h.fo.get ho x32 with ⟨e, _⟩ | ⟨r, _, _, _, hr⟩
    · rw [e] at xl
      cases xl
    · by_cases hxr : x = idO raw
      · rw [hxr] at hr ⊢
        exact ⟨raw, (e6 r hr).2⟩
      · exact ⟨r, by rw [e5 x x32 hxr]; exact hr⟩
set_option maxRecDepth 100000 in
set_option maxHeartbeats 6400000 in
theorem looseCut_walk (A : Option Addr) (l : List ObA) (c : Nat) (k1 : Int) (Ad : Option Addr) (d : List UInt8) (cd : Nat) (Ae : Option Addr) (en : List Ent) (ce : Nat) (tr : ByteArray) (Ap : Option Addr) (pa : List ByteArray) (cp : Nat) (ta na wh : ByteArray) (st : Int) (te : ByteArray) (iX : Int) (w : World) (hr : Rd w w.heap.size 10 A l.length (oc l)) (hos : Obs w w.heap.size l) (hl : l.length ≤ 140737488351232)
    (hd : Rd w w.heap.size 1 Ad d.length (bc d)) (he : Rd w w.heap.size 3 Ae en.length (ec en)) (hp : Rd w w.heap.size 1 Ap pa.length (pc pa)) (hel : en.length ≤ 140737488355328) (hpl : pa.length ≤ 140737488355328) (hsz : Hid (∀ p ∈ pa, p.size ≤ maxLen)) (wk : (Lit.int .i64 k1).wf = true) (ws : (Lit.int .i64 st).wf = true) (wi : (Lit.int .i64 iX).wf = true) :
    Calls Tryz.prog 8 #[.slice A l.length c, .agg #[.int .i64 k1, .slice Ad d.length cd, .slice Ae en.length ce, .string tr, .slice Ap pa.length cp, .string ta, .string na, .string wh, .int .i64 st, .string te], .int .i64 iX] w fun e w' => e = .returned (.bool true) ∧ Below w.heap.size w w' := by
  have hb0 : Below w.heap.size w (w.alloc (.cells #[.int .i64 k1, .slice Ad d.length cd, .slice Ae en.length ce, .string tr, .slice Ap pa.length cp, .string ta, .string na, .string wh, .int .i64 st, .string te] 40)) := (Below.refl _ _).alloc (Nat.le_refl _) _
  have hB := Blk.new w 40 (ocells k1 (.slice Ad d.length cd) (.slice Ae en.length ce) tr (.slice Ap pa.length cp) ta na wh st te)
  go_enter Tryz.func8, Tryz.ntmps8
  go_wp2_with fail
  refine (awake7_calls _).mono ?_
  rintro e w1 ⟨rfl, hb1⟩
  have hB1 := hB.below hb1 hB.lt
  have hbw := hb0.next hb1
  go_wp2_with fail
  refine (DNew_calls 1099511627776 w1 (by omega) (by omega)).mono ?_
  rintro e w2 ⟨g, m, rfl, hD2, hg2, hm2, hb2⟩
  have hB2 := hB1.below hb2 hB1.lt
  have hb02 := hbw.next hb2
  obtain ⟨c0, c1, c2, c3, c4, c5, c6, c7, c8, c9⟩ := obj_cells hB2
  have hs1 := hbw.size
  have hgw : w.heap.size ≤ g := by omega
  have hmw : w.heap.size ≤ m := by omega
  have HE := Lib.hid (Encode_calls k1 Ad d cd Ae en ce tr Ap pa cp ta na wh st te w2 (hd.alive hb02) (he.alive hb02) (hp.alive hb02) hel hpl hsz)
  clear hB hB1 hb0 hb1 hd he hp hsz
  go_wp2_with fail
  refine HE.out.mono ?_
  rintro e w3 ⟨hb3, ⟨hch, raw, A3, cp3, el, rfl, ho3⟩ | ⟨hch, rfl⟩⟩
  · have hb03 := hb02.next hb3
    have hD3 := hD2.below hb3
    have hobj : isObjL geS raw = true := by rw [el.out]; unfold isObjL; rw [dec_enc hch]; rfl
    have hfew := obj_few raw hobj
    have hol := own_le ho3
    have hO3 : HoOk (newD 1099511627776) 0 [] := ⟨newD_calm _ (by omega) (by omega), newD_FO _, by rw [newD_free _ (by omega) (by omega)]; omega, fun p hp => (List.not_mem_nil hp).elim⟩
    have HB := Lib.hid hobj
    clear HE el hch hB2 c0 c1 c2 c3 c4 c5 c6 c7 c8 c9 hobj
    go_wp2_with fail
    go_loopw [12] (fun i wr => DrRel l 10 g m w i wr ∧ wr.ownsRow w2.heap.size 5 1 (.slice A3 raw.length cp3) raw.length (bc raw)) (fun i _ => l.length - (intOf i).toNat)
    case atStart => exact ⟨⟨0, _, rfl, Nat.zero_le _, Nat.zero_le _, hD3, hO3, hb03⟩, ho3⟩
    case round =>
      clear hD3 hO3 hb03 ho3 hD2 hb02 hbw hb2 hb3
      obtain ⟨⟨k, D, rfl, hk, hk30, hD, hO, hb⟩, ho3⟩ := hrel
      have hs := hb.size
      have f1 : IntKind.i64.wrap ((k : Int) + 1) = (k : Int) + 1 := IntWalk.i64_in _ (by omega)
      by_cases h1 : k < l.length ∧ k < 10
      · obtain ⟨h1, h2⟩ := h1
        have d1 : decide ((k : Int) < (l.length : Int)) = true := decide_eq_true (by omega)
        have d1' : (k : Int) < (l.length : Int) := by omega
        have d2 : decide ((k : Int) < 10) = true := decide_eq_true (by omega)
        have d2' : (k : Int) < 10 := by omega
        have hk0 : (0 : Int) ≤ (k : Int) := by omega
        obtain ⟨x, hx⟩ : ∃ x, l[k]? = some x := ⟨l[k], List.getElem?_eq_getElem h1⟩
        obtain ⟨bb, off, rfl, hbb, hcell⟩ := (hr.below hb).at_ (by omega)
        obtain ⟨x1, x2, x3, x4, x5, x6⟩ := hos x (List.mem_of_getElem? hx)
        obtain ⟨q0, q1, q2, q3, q4, q5, q6, q7, q8, q9⟩ := obs_cells hcell hx
        have HE := Lib.hid (Encode_calls x.k x.Ad x.d x.cd x.Ae x.en x.ce x.tr x.Ap x.pa x.cp x.ta x.na x.wh x.st x.te wr ((x1.below hb).more hs) ((x2.below hb).more hs) ((x3.below hb).more hs) x4 x5 (Lib.hid x6.out.2))
        clear hcell hx x1 x2 x3 x4 x5 x6
        go_wp2_with fail
        refine HE.out.mono ?_
        rintro e w4 ⟨hb4, ⟨hc, r4, A4, c4, el, rfl, ho4⟩ | ⟨hc, rfl⟩⟩
        · have hobj4 : isObjL geS r4 = true := by rw [el.out]; unfold isObjL; rw [dec_enc hc]; rfl
          have hfew4 := obj_few r4 hobj4
          have hol4 := own_le ho4
          have hD4 := hD.below hb4
          have hb04 := hb.next hb4
          have hP := PutO_calls hD4 hO.calm.ok.toW (by have := hO.calm.ok.lenW; omega) A4 r4 c4 (Rd.of_own ho4) hol4.1 hol4.2 (by omega)
          obtain ⟨v, D', he, hO5⟩ : ∃ v D', putO geS D r4 = (v, D') ∧ HoOk D' (k + 1) [] := by
            rcases hO.put (by omega) hobj4 with ⟨he, hO5⟩ | ⟨D', he, hO5⟩
            · exact ⟨_, _, he, hO5⟩
            · exact ⟨_, _, he, hO5.lean⟩
          rw [he] at hP
          have HP := Lib.hid hP
          clear HE hc el hP he hO hobj4
          go_wp2_with fail
          refine HP.out.mono ?_
          rintro e w5 ⟨rfl, hD5, ht5⟩
          have hb05 := Tw.new hb04 ht5 hgw hmw
          have ho5 := own_tw hD4 ht5 (own_belowW ho3 hb4) (by decide)
          go_wp2_with fail
          exact ⟨⟨⟨k + 1, D', by go_num, by omega, by omega, hD5, hO5, hb05⟩, ho5⟩, by simp [intOf]; omega⟩
        · clear HE
          go_wp2_with fail
          exact ⟨⟨⟨k + 1, D, by go_num, by omega, by omega, hD.below hb4, hO.next, hb.next hb4⟩, own_belowW ho3 hb4⟩, by simp [intOf]; omega⟩
      · have hfin : ¬ ((k : Int) < (l.length : Int) ∧ (k : Int) < 10) := fun h => h1 ⟨by omega, by omega⟩
        go_upto_region 7 with (fail)
        go_cut [47] (fun v wx => v = .bool false ∧ wx = wr)
        case first =>
          by_cases hkl : k < l.length
          · have d1 : decide ((k : Int) < (l.length : Int)) = true := decide_eq_true (by omega)
            have d1' : (k : Int) < (l.length : Int) := by omega
            have d2 : decide ((k : Int) < 10) = false := decide_eq_false (by omega)
            have d2' : ¬ (k : Int) < 10 := by omega
            clear hfin h1
            go_wp2_with fail
            go_meet
            exact ⟨rfl, rfl⟩
          · have d1 : decide ((k : Int) < (l.length : Int)) = false := decide_eq_false (by omega)
            have d1' : ¬ (k : Int) < (l.length : Int) := by omega
            clear hfin h1
            go_wp2_with fail
            go_meet
            exact ⟨rfl, rfl⟩
        case rest =>
        obtain ⟨rfl, hwx⟩ := hcut
        obtain rfl := hwx.symm
        have HI := Lib.hid (IdsO_calls hD hO.calm.ok.toW)
        obtain ⟨b, hbe⟩ : ∃ b, b = bits .and .i64 iX 63 := ⟨_, rfl⟩
        have hbr := mask_rng iX 6 63 (by decide) (by decide)
        rw [← hbe] at hbr
        have hbe2 := hbe.symm
        have hlaw := cut_law hO hk30 HB.out b hbr.1 hbr.2
        have hxb : (idsO D).length ≤ 68719476736 := by rw [hO.fo.idsLen]; exact hO.calm.ok.lenW
        have hcutD : cutD D b = (0, (cutD D b).2) := by unfold cutD; rw [if_neg (by omega)]
        have hK1 := (hO.calm.ok.cut (k := b) (by omega)).toW
        have hL1 := (hO.calm.ok.cut (k := b) (by omega)).lenW
        obtain ⟨D1, hD1⟩ : ∃ D1, D1 = (cutD D b).2 := ⟨_, rfl⟩
        rw [← hD1] at hlaw hcutD hK1 hL1
        have HLAW := Lib.hid hlaw
        clear hfin h1 f1 hk hr hos hl hO hbe hlaw hk30
        go_wp2_with fail
        refine HI.out.mono ?_
        rintro e w3 ⟨xs, A9, c9, hxs, rfl, ho9, hb3⟩
        have hb03 := hb.next hb3
        have hs3 := hb03.size
        have hC := Cut_calls (hD.below hb3) b
        rw [hcutD] at hC
        have HC := Lib.hid hC
        have hxl : xs.length ≤ 68719476736 := by rw [hxs.out]; exact hxb
        clear HI hC hcutD hxb hD1
        go_wp2_with fail
        refine HC.out.mono ?_
        rintro e w4 ⟨rfl, hD4, ht4⟩
        change Dsk w4 g m D1 at hD4
        have hb04 := Tw.new hb03 ht4 hgw hmw
        have ho4 := own_tw (hD.below hb3) ht4 (own_belowW ho3 hb3) (by decide)
        have ho94 := own_tw (hD.below hb3) ht4 ho9 (by decide)
        have hP := PutO_calls hD4 hK1 (by omega) A3 raw cp3 (Rd.of_own ho4) hol.1 hol.2 (by omega)
        obtain ⟨v, E, hvE⟩ : ∃ v E, putO geS D1 raw = (v, E) := ⟨_, _, rfl⟩
        rw [hvE] at hP
        have HP := Lib.hid hP
        have HVE := Lib.hid hvE
        obtain ⟨sv, gv, hpv, hway⟩ := putR_form v
        have HWAY := Lib.hid hway
        clear HC hP hvE hway
        go_wp2_with fail
        refine HP.out.mono ?_
        rintro e w5 ⟨he5, hD5, ht5⟩
        change e = .returned (putR v) at he5
        rw [hpv] at he5
        subst he5
        have hb05 := Tw.new hb04 ht5 hgw hmw
        have ho5 := own_tw hD4 ht5 ho4 (by decide)
        have ho95 := own_tw hD4 ht5 ho94 (by decide)
        have HOn := Lib.hid (On_calls hD5)
        clear HP hpv
        go_wp2_with fail
        refine HOn.out.mono ?_
        rintro e w6 ⟨rfl, hD6, ht6⟩
        have hb06 := Tw.new hb05 ht6 hgw hmw
        have ho6 := own_tw hD5 ht6 ho5 (by decide)
        have ho96 := own_tw hD5 ht6 ho95 (by decide)
        clear HOn
        by_cases hg7 : gv = 7
        · have z7 : (gv == 7) = true := by rw [hg7]; rfl
          clear hg7
          go_wp2_with fail
          go_ret
          exact ⟨rfl, hb06⟩
        · have z7 : (gv == 7) = false := beq_eq_false_iff_ne.2 hg7
          obtain ⟨S, D2, p2, p3, p4, p5, p6, p7, p2', p8⟩ : ∃ S D2, OkD (onD E) ∧ (getO geS (onD E) (idO raw) = .ok raw ∨ getO geS (onD E) (idO raw) = .error 6 ∧ gv ≠ 0) ∧ (∀ x ∈ idsO D, x.size = 32 ∧ ∃ r, getO geS (onD E) x = .ok r) ∧ sweepD (onD E) = (0, S) ∧ OkD S ∧ putO geS S raw = (.ok (idO raw), D2) ∧ OkD D2 ∧ (idsO D2).length ≤ (idsO D).length + 1 := by
            rcases HLAW.out with e7 | ⟨v', E', S, D2, q1, q2, q3, q4, q5, q6, q7, q8, q9⟩
            · rw [HVE.out] at e7
              rcases HWAY.out with ⟨id, e8, _⟩ | e8
              · rw [e8] at e7; cases e7
              · rw [e8] at e7
                injection e7 with e7
                exact absurd e7 hg7
            · rw [HVE.out] at q1
              injection q1 with q1 q1'
              subst q1 q1'
              refine ⟨S, D2, q2, ?_, q4, q5, q6, q7, q8, q9⟩
              rcases q3 with q3 | ⟨q3, j, q10, _, q11⟩
              · exact .inl q3
              · refine .inr ⟨q3, ?_⟩
                rcases HWAY.out with ⟨id, e8, _⟩ | e8
                · rw [e8] at q10; cases q10
                · rw [e8] at q10
                  injection q10 with q10
                  rw [q10]
                  exact q11
          have HS := Lib.hid (SumO_calls A3 raw cp3 w6 (Rd.of_own ho6) (by omega))
          have P3 := Lib.hid p3
          have P4 := Lib.hid p4
          have P8 := Lib.hid p8
          clear hg7 p3 p4 HLAW HVE HWAY p8
          go_wp2_with fail
          refine HS.out.mono ?_
          rintro e w7 ⟨rfl, hb7⟩
          have hD7 := hD6.below hb7
          have ho7 := own_belowW ho6 hb7
          have hb07 := hb06.next hb7
          have HG := Lib.hid (GetO_calls hD7 p2.toW (idO raw) (by rw [idO_size]; decide))
          clear HS
          go_wp2_with fail
          refine HG.out.mono ?_
          intro e w8 h8
          obtain ⟨bv, hv, he8, hb8, hw8⟩ : ∃ bv hv, e = .returned (.tuple #[bv, .int .i64 hv]) ∧ Below w7.heap.size w7 w8 ∧ ((hv = 0 ∧ ∃ A10 c10, bv = .slice A10 raw.length c10 ∧ Rd w8 w8.heap.size 1 A10 raw.length (bc raw)) ∨ (hv = 6 ∧ gv ≠ 0)) := by
            obtain ⟨hb8, h8⟩ := h8
            rcases P3.out with e3 | ⟨e3, e4⟩
            · rw [e3] at h8
              obtain ⟨q, A10, c10, hq, rfl, ho10, _⟩ := h8
              obtain rfl : q = raw := hq.out
              exact ⟨_, _, rfl, hb8, .inl ⟨rfl, A10, c10, rfl, Rd.of_own ho10⟩⟩
            · rw [e3] at h8
              obtain rfl := h8
              exact ⟨_, _, rfl, hb8, .inr ⟨rfl, e4⟩⟩
          clear h8
          subst he8
          have hD8 := hD7.below hb8
          have ho8 := own_belowW ho7 hb8
          have hb08 := hb07.next hb8
          have ho98 := own_belowW (own_belowW ho96 hb7) hb8
          clear HG P3
          go_upto_region 19 with (fail)
          go_cut [111] (fun v wx => v = .bool false ∧ wx = w8)
          case first =>
            rcases hw8 with ⟨rfl, A10, c10, rfl, hr10⟩ | ⟨rfl, hg0⟩
            · have cv1 : (convert 36 9 (.slice A10 raw.length c10)).run Tryz.prog w8 = .ok (.string (idS raw)) w8 := conv8f hr10
              have cv2 : (convert 36 9 (.slice A3 raw.length cp3)).run Tryz.prog w8 = .ok (.string (idS raw)) w8 := conv8f (Rd.of_own ho8)
              by_cases hg0 : gv = 0
              · have z0 : (gv == 0) = true := by rw [hg0]; rfl
                clear hg0
                go_wp2_with fail
                go_meet
                exact ⟨rfl, rfl⟩
              · have z0 : (gv == 0) = false := beq_eq_false_iff_ne.2 hg0
                clear hg0
                go_wp2_with fail
                go_meet
                exact ⟨rfl, rfl⟩
            · have z0 : (gv == 0) = false := beq_eq_false_iff_ne.2 hg0
              clear hg0
              go_wp2_with fail
              go_meet
              exact ⟨rfl, rfl⟩
          case rest =>
          obtain ⟨rfl, hwx⟩ := hcut
          obtain rfl := hwx.symm
          clear hw8
          go_wp2_with fail
          go_loopw [20] (fun i wq => LkRel xs.length w8 i wq) (fun i _ => xs.length - (intOf i).toNat)
          case atStart => exact ⟨0, rfl, Nat.zero_le _, Below.refl _ _⟩
          case round =>
            obtain ⟨k2, rfl, hk2, hbq⟩ := hrel
            have f1 : IntKind.i64.wrap ((k2 : Int) + 1) = (k2 : Int) + 1 := IntWalk.i64_in _ (by omega)
            have hDq := hD8.below hbq
            by_cases h1 : k2 < xs.length
            · have d1 : decide ((k2 : Int) < (xs.length : Int)) = true := decide_eq_true (by omega)
              have d1' : (k2 : Int) < (xs.length : Int) := by omega
              have hk20 : (0 : Int) ≤ (k2 : Int) := by omega
              obtain ⟨y, hy⟩ : ∃ y, xs[k2]? = some y := ⟨xs[k2], List.getElem?_eq_getElem h1⟩
              obtain ⟨y2, r, y3⟩ := P4.out y (by rw [← hxs.out]; exact List.mem_of_getElem? hy)
              obtain ⟨b7, o7, hA7, hbb7, hc7'⟩ := (Rd.of_own (own_belowW ho98 hbq)).at_ (by omega)
              subst hA7
              have q1 : wr.cell? ⟨b7, o7 + k2, none⟩ = some (.string y) := hc7' _ _ (by rw [sc, List.getElem?_map, hy]; rfl)
              have hG := GetO_calls hDq p2.toW y (by omega)
              rw [y3] at hG
              have HG := Lib.hid hG
              clear hc7' hy y3 hG
              go_wp2_with fail
              refine HG.out.mono ?_
              rintro e w9 ⟨hb9, q8, A8, c8, hq8, rfl, _⟩
              clear HG q1
              go_wp2_with fail
              exact ⟨⟨k2 + 1, by go_num, by omega, hbq.next hb9⟩, by simp [intOf]; omega⟩
            · have d1 : decide ((k2 : Int) < (xs.length : Int)) = false := decide_eq_false (by omega)
              have d1' : ¬ (k2 : Int) < (xs.length : Int) := by omega
              have hbw9 := hb08.next hbq
              have hoq := own_belowW ho8 hbq
              have hS := Sweep_calls hDq p2.toW
              rw [p5] at hS
              have HSw := Lib.hid hS
              clear hS p5 h1
              go_wp2_with fail
              refine HSw.out.mono ?_
              rintro e w9 ⟨rfl, hD9, ht9⟩
              change Dsk w9 g m S at hD9
              have hb09 := Tw.new hbw9 ht9 hgw hmw
              have ho10 := own_tw hDq ht9 hoq (by decide)
              have hP := PutO_calls hD9 p6.toW (by have := p6.lenW; omega) A3 raw cp3 (Rd.of_own ho10) hol.1 hol.2 (by omega)
              rw [p7] at hP
              have HP := Lib.hid hP
              clear hP p7 HSw
              go_wp2_with fail
              refine HP.out.mono ?_
              intro e w10 h9
              obtain ⟨rfl, hD10, ht10⟩ := h9.ok
              have hb010 := Tw.new hb09 ht10 hgw hmw
              have ho11 := own_tw hD9 ht10 ho10 (by decide)
              have HS := Lib.hid (SumO_calls A3 raw cp3 w10 (Rd.of_own ho11) (by omega))
              have e1 : IntKind.i64.wrap ((xs.length : Int) + 1) = (xs.length : Int) + 1 := IntWalk.i64_in _ (by omega)
              clear HP
              go_wp2_with (first
                | (go_at_call 45; (with_reducible refine HS.out.mono ?_); rintro e w11 ⟨rfl, hb11⟩
                   have hb011 := hb010.next hb11
                   have HI := Lib.hid (IdsO_calls (hD10.below hb11) p2'.toW))
                | (go_at_call 46; (with_reducible refine HI.out.mono ?_); rintro e w12 ⟨zs, A12, c12, hzs, rfl, ho12, hb12⟩
                   have dz : decide ((zs.length : Int) ≤ (xs.length : Int) + 1) = true := decide_eq_true (by
                     have h9 := P8.out
                     rw [← hzs.out, ← hxs.out] at h9
                     omega)))
              go_ret
              exact ⟨rfl, hb011.next hb12⟩
  · have hb03 := hb02.next hb3
    go_wp2_with fail
    go_ret
    exact ⟨rfl, hb03⟩
end Go.Proofs.YtecpbcmpncgokaaGreat
