/- The walk of the law SafeCut. Conditions: at most 3,518,437,208,780 files; names and bytes of each below 2^47. -/
import Derived.Test.YtegolgkagdlocaaSafe7
import Derived.Test.YtegolgkagdlocaaSafe8
import Derived.Test.YtegolgkagdlocaaCutLaw
import Derived.Test.YtegolgkagdlocaaSweepLaw
import Derived.Test.YtegolgkagdlocaaLoadOk
import Derived.Test.YtegolgkagdlocaaDisk14
import Derived.Test.YtegolgkagdlocaaFilSame
import Derived.Deep.CutBlock
import Derived.Deep.DeepCutAuto
namespace Go.Proofs.Ytegolgkagdlocaa
open Go.RowKit Go.Dol
set_option linter.unusedVariables false
set_option maxRecDepth 100000 in
set_option maxHeartbeats 8000000 in
theorem safeCut_walk (cap : Int) (A : Option Addr) (fs : List FilA) (c : Nat) (n : ByteArray) (Ab : Option Addr) (b : List UInt8) (cb : Nat) (cut : Int) (w : World) (hcw : (Lit.int .i64 cap).wf = true) (hr : Rd w w.heap.size 2 A fs.length (fc fs)) (hR : Fls8 w w.heap.size fs) (hnl : fs.length ≤ 3518437208780) (hsm : ∀ x ∈ fs, x.n.size ≤ 140737488351232 ∧ x.b.length ≤ 140737488351232)
    (hnn : n.size ≤ 140737488351232) (hrb : Rd w w.heap.size 1 Ab b.length (bc b)) (hcb : b.length ≤ cb) (hmb : cb ≤ maxLen) (hbl : b.length ≤ 140737488351232) (hcu : (Lit.int .i64 cut).wf = true) :
    Calls Try.prog 8 #[.int .i64 cap, .slice A fs.length c, .string n, .slice Ab b.length cb, .int .i64 cut] w fun e w' => e = .returned (.bool true) ∧ Below w.heap.size w w' := by
  clear hcw hcu
  have hfb := Far.of_rd hrb (Nat.le_refl _)
  have hAw := awake_calls w
  obtain ⟨cap', hcap⟩ : ∃ c, bits .and .i64 cap 1048575 = c := ⟨_, rfl⟩
  have hm := mask_range cap 20 1048575 rfl (by omega)
  rw [hcap] at hm
  obtain ⟨kk, hkk⟩ : ∃ c, bits .and .i64 cut 255 = c := ⟨_, rfl⟩
  have hkr := mask_range cut 8 255 rfl (by omega)
  rw [hkk] at hkr
  go_enter Try.func8, Try.ntmps8
  go_wp2_with fail
  refine hAw.mono ?_
  rintro e w1 ⟨rfl, hb1⟩
  clear hAw
  have hs1 := hb1.size
  have hBo := both_callsL cap A fs fs.length c rfl w1 ((hr.belowW hb1 (Nat.le_refl _)).more hs1) ((hR.below hb1).more hs1) (by omega) (fun x hx => by have := hsm x hx; omega) cap' hm hcap
  obtain ⟨ld, hld⟩ : ∃ ld, ld = loadD cap' (fs.map FilA.f) := ⟨_, rfl⟩
  rw [← hld] at hBo
  have HBo := Lib.hid hBo
  obtain ⟨od, ec⟩ := ld
  clear hBo hcap hr hR
  cases od with
  | none =>
    clear hld
    go_wp2_with fail
    refine HBo.out.mono ?_
    rintro e w2 ⟨rfl, hb2⟩
    go_wp2_with fail
    go_ret
    exact ⟨rfl, hb1.next hb2⟩
  | some D =>
    obtain ⟨hG, hl0, hd0, _, _⟩ := loadD_okG hld.symm hnl hsm
    clear hld
    have hK : OkW D := hG.mono (by omega) (by omega)
    obtain ⟨D1, hD1⟩ : ∃ E, E = { D with left := kk } := ⟨_, rfl⟩
    have hcD : cutD D kk = (0, D1) := by unfold cutD; rw [if_neg (by omega), if_neg (by rw [hd0]; decide), hD1]
    have hG1 : OkG 3518437208780 140737488351232 D1 := by have h1 := hG.cut (k := kk) (by omega); rw [hcD] at h1; exact h1
    have hK1 : OkW D1 := hG1.mono (by omega) (by omega)
    have hl1 : D1.l = D.l := by rw [hD1]
    have hd1 : D1.dark = false := by rw [hD1]; exact hd0
    have hlen := hG.len
    have hlen1 := hG1.len
    clear hD1
    obtain ⟨ke, E, hSE⟩ : ∃ k E, saveD D1 n b = (k, E) := ⟨_, _, rfl⟩
    have hGE : OkG 3518437208781 140737488351232 E := by have h1 := (hG1.mono (by omega) (Nat.le_refl _) : OkG 3518437208781 140737488351232 D1).save n b (by omega) hbl; rw [hSE] at h1; exact h1
    obtain ⟨ol, oh, hrd⟩ : ∃ rd oc, readD D n = (rd, oc) := ⟨_, _, rfl⟩
    go_wp2_with fail
    refine HBo.out.mono ?_
    rintro e w2 ⟨g, m, g2, rfl, hA2, _, hg2, hm2, _, hb2⟩
    have hb02 := hb1.next hb2
    have hg : w.heap.size ≤ g := by omega
    have hmm : w.heap.size ≤ m := by omega
    clear hg2 hm2
    have hRd := Read_calls hA2 hK.ord n (fun b hb => hK.small' hb)
    rw [hrd] at hRd
    have HRd := Lib.hid hRd
    clear hRd
    go_wp2_with fail
    refine HRd.out.mono ?_
    rintro e w3 ⟨z, A3, c3, he3, rfl, ho3, hb3⟩
    obtain rfl : z = ol := he3.out
    clear he3
    have hb03 := hb02.next hb3
    have hA3 := hA2.below hb3
    have HDu := Lib.hid (Dump_callsL hA3 hK.toL)
    go_wp2_with fail
    refine HDu.out.mono ?_
    rintro e w4 ⟨gs, A4, c4, hgs, rfl, ho4, hF4, hb4⟩
    have hb04 := hb03.next hb4
    have hA4 := hA3.below hb4
    have hgl : gs.length ≤ 3518437208880 := by have h1 := congrArg List.length hgs.out; rw [List.length_map] at h1; omega
    have HSh := Lib.hid (shadowed_calls A4 gs c4 n w4 (Rd.of_own ho4) hgl (by omega))
    go_wp2_with fail
    refine HSh.out.mono ?_
    rintro e w5 ⟨ys, A5, c5, hys, rfl, ho5, hb5⟩
    have hb05 := hb04.next hb5
    have hA5 := hA4.below hb5
    have hFy : Fls8 w5 0 ys := by rw [hys.out]; exact (hF4.below hb5).filter _
    have hyl : ys.length ≤ 3518437208880 := by have h1 := List.length_filter_le (fun x : FilA => keepN n x.n) gs; rw [hys.out]; omega
    have hYS : Hid (ys.map FilA.f = D.l.filter fun f => keepN n f.1) := by unfold Hid; rw [hys.out, filter_files gs (keepN n), hgs.out]
    have ho35 := own_belowW (own_belowW ho3 hb4) hb5
    have hCu := Cut_calls hA5 kk
    rw [hcD] at hCu
    have HCu := Lib.hid hCu
    clear hCu HSh HDu HBo HRd
    go_wp2_with fail
    refine HCu.out.mono ?_
    rintro e w6 ⟨rfl, hA6x, ht6⟩
    have hA6 : Dsk w6 g m D1 := hA6x
    have hb06 := Tw.new hb05 ht6 hg hmm
    have ho6 := own_tw hA5 ht6 ho5 (by decide)
    have hF6 := Fls8.tw hA5 ht6 hFy
    have ho36 := own_tw hA5 ht6 ho35 (by decide)
    have hSv := Save_callsW hA6 hK1 n (by omega) Ab b cb (by omega) (by omega) (by omega) w.heap.size (hfb.below hb06) hcb hmb hb06.size hg hmm
    rw [hSE] at hSv
    have HSv := Lib.hid hSv
    clear hSv hA6x HCu
    go_wp2_with fail
    refine HSv.out.mono ?_
    rintro e w7 ⟨rfl, hA7x, ht7⟩
    have hA7 : Dsk w7 g m E := hA7x
    have hb07 := Tw.new hb06 ht7 hg hmm
    have ho7 := own_tw hA6 ht7 ho6 (by decide)
    have hF7 := Fls8.tw hA6 ht7 hF6
    have ho37 := own_tw hA6 ht7 ho36 (by decide)
    clear hA7x HSv
    rcases save_out hG1.ord hd1 n b with ⟨_, h1⟩ | ⟨hs, hn0, hE, hO⟩
    · obtain ⟨rfl, rfl⟩ : ke = 1 ∧ E = D1 := by rw [hSE] at h1; injection h1 with h1 h2; exact ⟨h1, h2⟩
      go_wp2_with fail
      go_ret
      exact ⟨rfl, hb07⟩
    rw [hSE] at hO
    have hnb := shd_name hs hn0
    have hke : (ke == 1) = false := by
      rcases hO.way with ⟨h1, _⟩ | ⟨⟨h1, _⟩ | ⟨h1, _⟩, _⟩ <;> (have h2 : ke = _ := h1; rw [h2]; rfl)
    obtain ⟨nl, nh, hrn⟩ : ∃ rd oc, readD (onD E) n = (rd, oc) := ⟨_, _, rfl⟩
    have hGo : OkG 3518437208781 140737488351232 (onD E) := hGE.on
    have hKo : OkW (onD E) := hGo.mono (by omega) (by omega)
    obtain ⟨dk, hdk⟩ : ∃ x, x = E.dark := ⟨_, rfl⟩
    have hOf := Off_calls hA7
    rw [← hdk] at hOf
    have HCe := Lib.hid hOf
    clear hOf
    have HOn := Lib.hid (On_calls hA7)
    go_wp2_with (first
      | (go_at_call 34; refine HCe.out.mono ?_; rintro e z0 ⟨rfl, hz0⟩; obtain rfl := hz0.symm))
    refine HOn.out.mono ?_
    rintro e w8 ⟨rfl, hA8, ht8⟩
    have hb08 := Tw.new hb07 ht8 hg hmm
    have ho8 := own_tw hA7 ht8 ho7 (by decide)
    have hF8 := Fls8.tw hA7 ht8 hF7
    have ho38 := own_tw hA7 ht8 ho37 (by decide)
    have hRn := Read_calls hA8 hKo.ord n (fun b hb => hKo.small' hb)
    rw [hrn] at hRn
    have HRn := Lib.hid hRn
    clear hRn
    go_wp2_with fail
    refine HRn.out.mono ?_
    rintro e w9 ⟨z9, A9, c9, he9, rfl, ho9, hb9⟩
    obtain rfl : z9 = nl := he9.out
    clear he9
    have hb09 := hb08.next hb9
    have hA9 := hA8.below hb9
    have ho39 := own_belowW ho38 hb9
    have v1 : (convert 23 9 (.slice A9 z9.length c9)).run Try.prog w9 = .ok (.string ⟨z9.toArray⟩) w9 := conv8f (Rd.of_own ho9)
    have v2 : (convert 23 9 (.slice A3 z.length c3)).run Try.prog w9 = .ok (.string ⟨z.toArray⟩) w9 := conv8f (Rd.of_own ho39)
    have v3 : (convert 23 9 (.slice Ab b.length cb)).run Try.prog w9 = .ok (.string ⟨b.toArray⟩) w9 := conv8f (hfb.below hb09).1
    obtain ⟨sm, hsmE⟩ : ∃ x : Bool, x = (nh == oh && z9 == z) := ⟨_, rfl⟩
    obtain ⟨fr, hfrE⟩ : ∃ x : Bool, x = (nh == 0 && z9 == b) := ⟨_, rfl⟩
    have HSM := Lib.hid hsmE
    have HFR := Lib.hid hfrE
    clear hsmE hfrE
    go_upto_region 14 with (fail)
    go_cut [21] (fun v wx => v = .bool sm ∧ wx = w9)
    case first =>
      cases h1 : (nh == oh) with
      | true =>
        have h2 : (z9 == z) = sm := by rw [HSM.out, h1]; rfl
        go_wp2_with fail
        all_goals (go_meet; exact ⟨rfl, rfl⟩)
      | false =>
        have h2 : sm = false := by rw [HSM.out, h1]; rfl
        go_wp2_with fail
        all_goals (go_meet; exact ⟨by rw [h2], rfl⟩)
    case rest =>
    obtain ⟨rfl, hwx⟩ := hcut
    subst hwx
    go_upto_region 15 with (fail)
    go_cut [22] (fun v wx => v = .bool fr ∧ wx = wc)
    case first =>
      cases h1 : (nh == 0) with
      | true =>
        have h2 : (z9 == b) = fr := by rw [HFR.out, h1]; rfl
        go_wp2_with fail
        all_goals (go_meet; exact ⟨rfl, rfl⟩)
      | false =>
        have h2 : fr = false := by rw [HFR.out, h1]; rfl
        go_wp2_with fail
        all_goals (go_meet; exact ⟨by rw [h2], rfl⟩)
    case rest =>
    obtain ⟨rfl, hwx⟩ := hcut
    subst hwx
    clear v1 v2 v3
    go_upto_region 16 with (fail)
    go_cut [124] (fun v wx => v = .bool false ∧ Dsk wx g m (onD E) ∧ Below w.heap.size w wx ∧ wx.ownsRow w8.heap.size 5 1 (.slice A9 z9.length c9) z9.length (bc z9))
    case first =>
      have HDu2 := Lib.hid (Dump_callsL hA9 hKo.toL)
      go_wp2_with fail
      refine HDu2.out.mono ?_
      rintro e w10 ⟨gs2, A10, c10, hgs2, rfl, ho10, hF10, hb10⟩
      have hb010 := hb09.next hb10
      have hgl2 : gs2.length ≤ 3518437208880 := by have h1 := congrArg List.length hgs2.out; rw [List.length_map] at h1; have := hKo.len; omega
      have HSh2 := Lib.hid (shadowed_calls A10 gs2 c10 n w10 (Rd.of_own ho10) hgl2 (by omega))
      go_wp2_with fail
      refine HSh2.out.mono ?_
      rintro e w11 ⟨ys2, A11, c11, hys2, rfl, ho11, hb11⟩
      have hb011 := hb010.next hb11
      have hyl2 : ys2.length ≤ 3518437208880 := by have h1 := List.length_filter_le (fun x : FilA => keepN n x.n) gs2; rw [hys2.out]; omega
      have hF11 : Fls8 w11 0 ys2 := by rw [hys2.out]; exact (hF10.below hb11).filter _
      have hsame : ys.map FilA.f = ys2.map FilA.f := by
        rw [hYS.out, hys2.out, filter_files gs2 (keepN n), hgs2.out]
        refine filter_same hG.ord hGo.ord (keepN n) fun x hx => ?_
        obtain ⟨h1, h2⟩ := keep_ne hx
        have h3 := hO.oth x h1 h2
        rw [hl1] at h3
        exact h3.symm
      have HQ := Lib.hid hsame
      have HSm := Lib.hid (SameFiles_calls A5 ys c5 A11 ys2 c11 w11 _ _ _ _ (Rd.of_own (own_belowW (own_belowW (own_belowW ho8 hb9) hb10) hb11)) (Rd.of_own ho11) (((hF8.below hb9).below hb10).below hb11) hF11 (by omega) (by omega))
      have ho911 := own_belowW (own_belowW ho9 hb10) hb11
      have hA11 := (hA9.below hb10).below hb11
      clear hsame
      go_wp2_with fail
      refine HSm.out.mono ?_
      rintro e w12 ⟨u, nq, rfl, hu, hz12⟩
      obtain rfl : u = true := hu.2 HQ.out
      have hb12 : Below w11.heap.size w11 w12 := by rw [hz12]; exact (Below.refl _ _).drewN' nq
      have hA12 := hA11.below hb12
      have ho912 := own_belowW ho911 hb12
      have hb012 := hb011.next hb12
      clear hu hz12
      rcases hO.way with ⟨k1, k2, k3⟩ | ⟨k1, k2⟩
      · obtain rfl : ke = 0 := k1
        have k2' : lookF (onD E).l n = some b := k2
        have hro : nh = 0 ∧ z9 = b := by unfold readD at hrn; rw [if_neg (by rw [hnb]; decide), k2'] at hrn; injection hrn with h1 h2; exact ⟨h2.symm, h1.symm⟩
        obtain rfl : fr = true := by rw [HFR.out, hro.1, hro.2]; simp
        have K3 : Hid (E.dark = false) := k3
        clear hro k2 k3 k2' hO hSE hrn hrd
        cases sm with
        | true =>
          go_wp2_with fail
          go_meet
          exact ⟨by rw [K3.out], hA12, hb012, ho912⟩
        | false =>
          go_wp2_with fail
          go_meet
          exact ⟨by rw [K3.out], hA12, hb012, ho912⟩
      · have hro : nh = oh ∧ z9 = z := by
          have k2' : lookF (onD E).l n = lookF D.l n := by rw [← hl1]; exact k2
          have h3 : readD (onD E) n = readD D n := by unfold readD; rw [k2']
          rw [hrn, hrd] at h3
          injection h3 with h1 h2
          exact ⟨h2, h1⟩
        obtain rfl : sm = true := by rw [HSM.out, hro.1, hro.2]; simp
        clear hro k2
        rcases k1 with ⟨k1, k3⟩ | ⟨k1, k3⟩
        · obtain rfl : ke = 4 := k1
          have K3 : Hid (E.dark = false) := k3
          clear k3 hO hSE hrn hrd
          go_wp2_with fail
          go_meet
          exact ⟨by rw [K3.out], hA12, hb012, ho912⟩
        · obtain rfl : ke = 5 := k1
          have K3 : Hid (E.dark = true) := k3
          clear k3 hO hSE hrn hrd
          go_wp2_with fail
          go_meet
          exact ⟨by rw [K3.out]; rfl, hA12, hb012, ho912⟩
    case rest =>
    obtain ⟨rfl, hAc, hbc, hoc⟩ := hcut
    have hcalm : CalmW (onD E) := ⟨rfl, rfl⟩
    obtain ⟨F, hF, hCF, _, hFl⟩ := sweep_calm hGo hcalm
    have hGF : OkG 3518437208781 140737488351232 F := by have h1 := hGo.sweepL ((onD E).l.map Prod.fst); change OkG _ _ (sweepD (onD E)).2 at h1; rw [hF] at h1; exact h1
    have hKF : OkW F := hGF.mono (by omega) (by omega)
    have hFs : lookF F.l (shd n) = none := by
      rw [hFl, look_filter hGo.ord (fun x => !endsT x)]
      rw [if_neg]
      have h1 : endsT (shd n) = true := by
        unfold endsT shd
        rw [ByteArray.data_append, Array.toList_append]
        simp
      rw [h1]
      decide
    have hFr : readD F n = (z9, nh) := by
      have h1 : lookF F.l n = lookF (onD E).l n := by rw [hFl, look_filter hGo.ord (fun x => !endsT x), if_pos (by rw [hE]; rfl)]
      rw [← hrn]
      unfold readD
      rw [h1]
    have hSw := Sweep_calls hAc hKo
    rw [hF] at hSw
    have HSw := Lib.hid hSw
    clear hSw hF hFl HSM HFR hO hrn hrd hYS
    go_wp2_with fail
    refine HSw.out.mono ?_
    rintro e w13 ⟨rfl, hA13x, ht13⟩
    have hA13 : Dsk w13 g m F := hA13x
    have hb013 := Tw.new hbc ht13 hg hmm
    have ho13 := own_tw hAc ht13 hoc (by decide)
    have hHs : Calls Try.prog 16 #[.pointer (some ⟨g, 0, none⟩), .string (n ++ ⟨#[126]⟩)] w13 fun e w' => e = .returned (.bool (lookF F.l (shd n)).isSome) ∧ w' = w13 := Has_calls hA13 hKF.ord (shd n) (by have := nameB_le hs; unfold maxLen; omega)
    rw [hFs] at hHs
    have HHs := Lib.hid hHs
    clear hHs hA13x
    go_wp2_with fail
    refine HHs.out.mono ?_
    rintro e z0 ⟨rfl, hz0⟩
    obtain rfl := hz0.symm
    have hRl := Read_calls hA13 hKF.ord n (fun b hb => hKF.small' hb)
    rw [hFr] at hRl
    have HRl := Lib.hid hRl
    clear hRl
    go_wp2_with fail
    refine HRl.out.mono ?_
    rintro e w14 ⟨z14, A14, c14, he14, rfl, ho14, hb14⟩
    obtain rfl : z14 = z9 := he14.out
    have hb014 := hb013.next hb14
    have ho914 := own_belowW ho13 hb14
    have v1 : (convert 23 9 (.slice A14 z14.length c14)).run Try.prog w14 = .ok (.string ⟨z14.toArray⟩) w14 := conv8f (Rd.of_own ho14)
    have v2 : (convert 23 9 (.slice A9 z14.length c9)).run Try.prog w14 = .ok (.string ⟨z14.toArray⟩) w14 := conv8f (Rd.of_own ho914)
    go_wp2_with fail
    go_ret
    exact ⟨rfl, hb014⟩
end Go.Proofs.Ytegolgkagdlocaa
