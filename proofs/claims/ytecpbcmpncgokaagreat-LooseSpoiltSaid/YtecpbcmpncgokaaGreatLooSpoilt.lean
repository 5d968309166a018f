/- The walk of the law LooseSpoilt: what is spoilt is told. Conditions: an object and bytes that read. -/
import Derived.Test.YtecpbcmpncgokaaGreatAppS
import Derived.Test.YtecpbcmpncgokaaGreatObjBB
namespace Go.Proofs.YtecpbcmpncgokaaGreat
open Go.RowKit Go.Dol
set_option linter.unusedVariables false
/-- What the law does, on a disk without files. -/
theorem spoilt_law {raw sp : List UInt8} (h1 : isObjL geS raw = true) (hs : sp.length ≤ 64) : ∃ D1 D2 D3, putO geS (newD 1099511627776) raw = (.ok (idO raw), D1) ∧ readD D1 (nameO (idO raw)) = (pressL raw, 0) ∧ remD D1 (nameO (idO raw)) = (0, D2) ∧ appD D2 (nameO (idO raw)) sp = (0, D3) ∧ OkD D1 ∧ OkD D2 ∧ OkD D3 ∧
    ((∃ b, getO geS D3 (idO raw) = .ok b ∧ sumOf b = (idO raw).data.toList) ∨ (getO geS D3 (idO raw) = .error 2 ∧ putO geS D3 raw = (.error 2, D3) ∧ pressL raw ≠ sp)) := by
  have h32 := idO_size raw
  obtain ⟨b1, b2, b3, b4⟩ := nameO_B h32
  have hp := press_few h1
  have h0 : getO geS (newD 1099511627776) (idO raw) = .error 6 := get_none h32 rfl
  have hf0 := newD_free 1099511627776 (by omega) (by omega)
  rcases put_good (newD_calm 1099511627776 (by omega) (by omega)) (newD_FO 1099511627776) h1 (by rw [hf0]; omega) with ⟨b, _, e, _⟩ | ⟨e, _⟩ | ⟨D1, _, e, c1, c2, _, c4, _, c6, _, c8⟩
  · rw [h0] at e
    cases e
  · rw [h0] at e
    cases e
  · have hl1 : D1.l = [(nameO (idO raw), pressL raw)] := by rw [c4]; rfl
    have hk1 : lookF D1.l (nameO (idO raw)) = some (pressL raw) := by rw [hl1]; exact look_one _ _
    obtain ⟨e2, L2⟩ := rem_ok c1 hk1 b1
    obtain ⟨D2, hD2⟩ : ∃ D2 : Dk, D2 = { D1 with done := D1.done + 1, l := dropF D1.l (nameO (idO raw)) } := ⟨_, rfl⟩
    rw [← hD2] at e2 L2
    have hl2 : D2.l = [] := by
      have h9 := drop_one c1.ok.ord hk1
      rw [hl1] at h9
      rw [hD2, hl1]
      exact List.eq_nil_of_length_eq_zero (by simpa using h9)
    have hf2 : 1000 ≤ frD D2 := by
      have hc := L2.calm.free
      have hcap := L2.cap
      have hc1 := c1.free
      rw [hl1] at hc1
      rw [hl2] at hc
      simp only [costs, costF] at hc hc1
      have := nameO_size (idO raw)
      rw [hc, hcap]
      omega
    have hk2 : lookF D2.l (nameO (idO raw)) = none := by rw [hl2]; rfl
    obtain ⟨e3, L3⟩ := app_ok L2.calm b1 hs (by rw [appMore_none hk2, nameO_size, h32]; omega)
    obtain ⟨D3, hD3⟩ : ∃ D3 : Dk, D3 = { D2 with done := D2.done + 1, l := putF D2.l (nameO (idO raw)) ((lookF D2.l (nameO (idO raw))).getD [] ++ sp) } := ⟨_, rfl⟩
    rw [← hD3] at e3 L3
    have hl3 : D3.l = [(nameO (idO raw), sp)] := by
      rw [hD3]
      show putF D2.l _ (Option.getD (lookF D2.l _) [] ++ sp) = _
      rw [hk2, hl2]
      rfl
    have hk3 : lookF D3.l (nameO (idO raw)) = some sp := by rw [hl3]; exact look_one _ _
    have hg3 : getO geS D3 (idO raw) = match openL sp 2097152 with
        | none => .error 2
        | some r => if sumOf r = (idO raw).data.toList ∧ isObjL geS r = true then .ok r else .error 2 := by
      unfold getO
      rw [if_neg (by rw [h32]; simp), hk3]
      rfl
    refine ⟨D1, D2, D3, e, ?_, e2, e3, c1.ok, L2.calm.ok, L3.calm.ok, ?_⟩
    · unfold readD
      rw [if_neg (by rw [b1]; decide), hk1]
    · have herr : getO geS D3 (idO raw) = .error 2 → (getO geS D3 (idO raw) = .error 2 ∧ putO geS D3 raw = (.error 2, D3) ∧ pressL raw ≠ sp) := fun h => by
        refine ⟨h, ?_, fun e9 => ?_⟩
        · rw [putO_in h1, h]
          rfl
        · rw [← e9] at hk3
          rw [get_at h1 rfl hk3] at h
          cases h
      cases ho : openL sp 2097152 with
      | none =>
        rw [ho] at hg3
        exact .inr (herr hg3)
      | some r =>
        rw [ho] at hg3
        simp only at hg3
        split at hg3
        · rename_i hc
          exact .inl ⟨r, hg3, hc.1⟩
        · exact .inr (herr hg3)
set_option maxRecDepth 100000 in
set_option maxHeartbeats 6400000 in
theorem looseSpoilt_walk (k : Int) (Ad : Option Addr) (d : List UInt8) (cd : Nat) (Ae : Option Addr) (en : List Ent) (ce : Nat) (tr : ByteArray) (Ap : Option Addr) (pa : List ByteArray) (cp : Nat) (ta na wh : ByteArray) (st : Int) (te : ByteArray) (As : Option Addr) (sp : List UInt8) (cs : Nat) (w : World) (hd : Rd w w.heap.size 1 Ad d.length (bc d)) (he : Rd w w.heap.size 3 Ae en.length (ec en)) (hp : Rd w w.heap.size 1 Ap pa.length (pc pa)) (hel : en.length ≤ 140737488355328) (hpl : pa.length ≤ 140737488355328) (hsz : Hid (∀ p ∈ pa, p.size ≤ maxLen)) (wk : (Lit.int .i64 k).wf = true) (ws : (Lit.int .i64 st).wf = true)
    (hr : Rd w w.heap.size 1 As sp.length (bc sp)) (hc : sp.length ≤ cs) (hm : cs ≤ maxLen) (hn : sp.length ≤ 140737488351232) :
    Calls Tryz.prog 5 #[.agg #[.int .i64 k, .slice Ad d.length cd, .slice Ae en.length ce, .string tr, .slice Ap pa.length cp, .string ta, .string na, .string wh, .int .i64 st, .string te], .slice As sp.length cs] w fun e w' => e = .returned (.bool true) ∧ Below w.heap.size w w' := by
  have hb0 : Below w.heap.size w (w.alloc (.cells #[.int .i64 k, .slice Ad d.length cd, .slice Ae en.length ce, .string tr, .slice Ap pa.length cp, .string ta, .string na, .string wh, .int .i64 st, .string te] 40)) := (Below.refl _ _).alloc (Nat.le_refl _) _
  have hB := Blk.new w 40 (ocells k (.slice Ad d.length cd) (.slice Ae en.length ce) tr (.slice Ap pa.length cp) ta na wh st te)
  go_enter Tryz.func5, Tryz.ntmps5
  go_wp2_with fail
  refine (awake7_calls _).mono ?_
  rintro e w1 ⟨rfl, hb1⟩
  have hB1 := hB.below hb1 hB.lt
  have hbw := hb0.next hb1
  obtain ⟨c0, c1, c2, c3, c4, c5, c6, c7, c8, c9⟩ := obj_cells hB1
  have HE := Lib.hid (Encode_calls k Ad d cd Ae en ce tr Ap pa cp ta na wh st te w1 (hd.alive hbw) (he.alive hbw) (hp.alive hbw) hel hpl hsz)
  have hF1 : Far w1 w.heap.size As sp := (Far.of_rd hr (Nat.le_refl _)).below hbw
  have hsw := hbw.size
  clear hB hB1 hb0 hb1
  go_wp2_with fail
  refine HE.out.mono ?_
  rintro e w2 ⟨hb2, ⟨hch, raw, A2, cp2, el, rfl, ho2⟩ | ⟨hch, rfl⟩⟩
  · have hb02 := hbw.next hb2
    by_cases h64 : sp.length ≤ 64
    · have d1 : decide ((sp.length : Int) > 64) = false := decide_eq_false (by omega)
      have d1' : decide ((64 : Int) < (sp.length : Int)) = false := decide_eq_false (by omega)
      have hobj : isObjL geS raw = true := by rw [el.out]; unfold isObjL; rw [dec_enc hch]; rfl
      have hfew := obj_few raw hobj
      have hol := own_le ho2
      obtain ⟨D1, D2, D3, p1, p2, p3, p4, k1, k2, k3, p5⟩ := spoilt_law (sp := sp) hobj h64
      obtain ⟨id, hid⟩ : ∃ id, id = idO raw := ⟨_, rfl⟩
      have h32 : id.size = 32 := by rw [hid]; exact idO_size raw
      rw [← hid] at p1 p2 p3 p4 p5
      have hns : (nameO id).size = 66 := by rw [nameO_size, h32]
      have hF2 := hF1.below hb2
      have HID := Lib.hid hid
      clear hid HE el hch hd he hp hr
      go_wp2_with fail
      refine (DNew_calls 1099511627776 w2 (by omega) (by omega)).mono ?_
      rintro e w3 ⟨g, m, rfl, hD3, hg3, hm3, hb3⟩
      have hs2 := hb02.size
      have hgw : w.heap.size ≤ g := by omega
      have hmw : w.heap.size ≤ m := by omega
      have hF3 := hF2.below hb3
      have ho3 := own_belowW ho2 hb3
      have hP := PutO_calls hD3 (newD_calm 1099511627776 (by omega) (by omega)).ok.toW (by decide) A2 raw cp2 (Rd.of_own ho3) hol.1 hol.2 (by omega)
      rw [p1] at hP
      have HP := Lib.hid hP
      clear hP p1
      go_wp2_with fail
      refine HP.out.mono ?_
      intro e w4 h9
      obtain ⟨rfl, hD4, ht4⟩ := h9.ok
      have hb04 := Tw.new (hb02.next hb3) ht4 hgw hmw
      have ho4 := own_tw hD3 ht4 ho3 (by decide)
      have hF4 := hF3.tw ht4 (hD3.others hgw hmw).1 (hD3.others hgw hmw).2
      have HN := Lib.hid (Name_calls id w4 (by omega))
      clear HP
      go_wp2_with fail
      refine HN.out.mono ?_
      rintro e w5 ⟨rfl, hb5⟩
      have hD5 := hD4.below hb5
      have hR := Read_calls hD5 k1.ord (nameO id) (fun b hb => k1.toW.small' hb)
      rw [p2] at hR
      have HR := Lib.hid hR
      clear hR p2 HN
      go_wp2_with fail
      refine HR.out.mono ?_
      rintro e w6 ⟨b6, A6, c6, hb6e, rfl, ho6, hb6⟩
      have hD6 := hD5.below hb6
      have hb46 := hb5.next hb6
      have HN := Lib.hid (Name_calls id w6 (by omega))
      clear HR
      go_wp2_with fail
      refine HN.out.mono ?_
      rintro e w7 ⟨rfl, hb7⟩
      have hD7 := hD6.below hb7
      have hRm := Remove_calls hD7 k1.toW (nameO id) (by unfold maxLen; omega)
      rw [p3] at hRm
      have HRm := Lib.hid hRm
      clear hRm p3 HN
      go_wp2_with fail
      refine HRm.out.mono ?_
      rintro e w8 ⟨rfl, hD8, ht8⟩
      have hb47 := hb46.next hb7
      have hb08 := Tw.new (hb04.next hb47) ht8 hgw hmw
      have ho8 := own_tw hD7 ht8 (own_belowW ho4 hb47) (by decide)
      have ho68 := own_tw hD7 ht8 (own_belowW ho6 hb7) (by decide)
      have hF8 := (hF4.below hb47).tw ht8 (hD7.others hgw hmw).1 (hD7.others hgw hmw).2
      have HN := Lib.hid (Name_calls id w8 (by omega))
      clear HRm
      go_wp2_with fail
      refine HN.out.mono ?_
      rintro e w9 ⟨rfl, hb9⟩
      have hD9 := hD8.below hb9
      have hF9 := hF8.below hb9
      have hA := Append_calls hD9 k2.toW (nameO id) (by unfold maxLen; omega) w.heap.size As sp cs hF9 hgw
      rw [p4] at hA
      have HA := Lib.hid hA
      clear hA p4 HN
      go_wp2_with fail
      refine HA.out.mono ?_
      rintro e w10 ⟨rfl, hD10, ht10⟩
      have hb010 := Tw.new (hb08.next hb9) ht10 hgw hmw
      have ho10 := own_tw hD9 ht10 (own_belowW ho8 hb9) (by decide)
      have ho610 := own_tw hD9 ht10 (own_belowW ho68 hb9) (by decide)
      have hF10 := hF9.tw ht10 (hD9.others hgw hmw).1 (hD9.others hgw hmw).2
      have hG := GetO_calls hD10 k3.toW id (by omega)
      rcases p5 with ⟨b, pg, ps⟩ | ⟨pg, pp, pn⟩
      · rw [pg] at hG
        have HG := Lib.hid hG
        have PS := Lib.hid ps
        have hbf := obj_few b (get_ok pg).2.1
        clear hG pg HA ps
        go_wp2_with fail
        refine HG.out.mono ?_
        rintro e w11 ⟨hb11, q, A11, c11, hq, rfl, ho11, hq1, hq2⟩
        have hql : q.length ≤ 140737488355296 := by rw [hq.out]; omega
        have HS := Lib.hid (SumO_calls A11 q c11 w11 (Rd.of_own ho11) hql)
        have hb011 := hb010.next hb11
        have z1 : ((idO q).toList == id.toList) = true := str_eq_b' (ba_of.2 (by rw [hq.out]; exact PS.out))
        go_wp2_with ((go_at_call 45; (with_reducible refine HS.out.mono ?_); rintro e w12 ⟨rfl, hb12⟩))
        go_ret
        exact ⟨rfl, hb011.next hb12⟩
      · rw [pg] at hG
        have HG := Lib.hid hG
        clear hG pg HA
        go_wp2_with fail
        refine HG.out.mono ?_
        rintro e w11 ⟨hb11, hm11⟩
        obtain rfl := hm11
        have hD11 := hD10.below hb11
        have ho11 := own_belowW ho10 hb11
        have hb011 := hb010.next hb11
        have hP := PutO_calls hD11 k3.toW (by have := k3.lenW; omega) A2 raw cp2 (Rd.of_own ho11) hol.1 hol.2 (by omega)
        rw [pp] at hP
        have HP := Lib.hid hP
        clear hP pp
        go_wp2_with fail
        refine HP.out.mono ?_
        intro e w12 h9
        obtain ⟨rfl, hD12, ht12⟩ := h9.err
        have ho12 := own_tw hD11 ht12 (own_belowW ho610 hb11) (by decide)
        have hF12 := (hF10.below hb11).tw ht12 (hD11.others hgw hmw).1 (hD11.others hgw hmw).2
        have cv1 : (convert 36 9 (.slice A6 b6.length c6)).run Tryz.prog w12 = .ok (.string (idS b6)) w12 := conv8f (Rd.of_own ho12)
        have cv2 : (convert 36 9 (.slice As sp.length cs)).run Tryz.prog w12 = .ok (.string (idS sp)) w12 := conv8f hF12.1
        have hne : idS b6 ≠ idS sp := fun e => pn (by
          rw [← hb6e.out]
          simpa [idS] using congrArg (fun x : ByteArray => x.data.toList) e)
        have z1 : ((idS b6).toList != (idS sp).toList) = true := str_bne' hne
        have z2 : ((idS b6).toList == (idS sp).toList) = false := str_ne_b' hne
        clear pn HP hne
        go_wp2_with fail
        go_ret
        exact ⟨rfl, Tw.new hb011 ht12 hgw hmw⟩
    · have d1 : decide ((sp.length : Int) > 64) = true := decide_eq_true (by omega)
      have d1' : decide ((64 : Int) < (sp.length : Int)) = true := decide_eq_true (by omega)
      go_wp2_with fail
      go_ret
      exact ⟨rfl, hb02⟩
  · go_wp2_with fail
    go_ret
    exact ⟨rfl, hbw.next hb2⟩
end Go.Proofs.YtecpbcmpncgokaaGreat
