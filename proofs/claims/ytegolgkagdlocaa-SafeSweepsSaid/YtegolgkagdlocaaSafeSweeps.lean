/- The walk of the law SafeSweeps. Conditions: at most 3,518,437,208,780 files; names and bytes of each below 2^47. -/
import Derived.Test.YtegolgkagdlocaaSweepLaw
import Derived.Test.YtegolgkagdlocaaRSwp
import Derived.Test.YtegolgkagdlocaaTheirs5
import Derived.Test.YtegolgkagdlocaaSafe7
import Derived.Test.YtegolgkagdlocaaSafe8
import Derived.Test.YtegolgkagdlocaaLoadOk
import Derived.Test.YtegolgkagdlocaaDisk14
import Derived.Test.YtegolgkagdlocaaFilSame
namespace Go.Proofs.Ytegolgkagdlocaa
open Go.RowKit Go.Dol
set_option linter.unusedVariables false
/-- The rounds: of the first k files those that are no shadows. -/
def SsRel (fs : List FilA) (w : World) (q i : Value) (wr : World) : Prop :=
  ∃ (k : Nat) (ys : List FilA) (A : Option Addr) (c : Nat), q = .slice A ys.length c ∧ i = .int .i64 k ∧ k ≤ fs.length ∧ Hid (ys = (fs.take k).filter fun x => !endsT x.n) ∧ ys.length ≤ k ∧ wr.ownsRow w.heap.size 47 2 (.slice A ys.length c) ys.length (fc ys) ∧ Below w.heap.size w wr
set_option maxRecDepth 100000 in
set_option maxHeartbeats 8000000 in
theorem safeSweeps_walk (cap : Int) (A : Option Addr) (fs : List FilA) (c : Nat) (w : World) (hcw : (Lit.int .i64 cap).wf = true) (hr : Rd w w.heap.size 2 A fs.length (fc fs)) (hR : Fls8 w w.heap.size fs) (hnl : fs.length ≤ 3518437208780) (hsm : ∀ x ∈ fs, x.n.size ≤ 140737488351232 ∧ x.b.length ≤ 140737488351232) :
    Calls Try.prog 6 #[.int .i64 cap, .slice A fs.length c] w fun e w' => e = .returned (.bool true) ∧ Below w.heap.size w w' := by
  clear hcw
  have hAw := awake_calls w
  obtain ⟨cap', hcap⟩ : ∃ c, bits .and .i64 cap 1048575 = c := ⟨_, rfl⟩
  have hm := mask_range cap 20 1048575 rfl (by omega)
  rw [hcap] at hm
  go_enter Try.func6, Try.ntmps6
  go_wp2_with fail
  refine hAw.mono ?_
  rintro e w1 ⟨rfl, hb1⟩
  clear hAw
  have hs1 := hb1.size
  have hBo := both_callsL cap A fs fs.length c rfl w1 ((hr.belowW hb1 (Nat.le_refl _)).more hs1) ((hR.below hb1).more hs1) (by omega) (fun x hx => by have := hsm x hx; omega) cap' hm hcap
  obtain ⟨ld, hld⟩ : ∃ ld, ld = loadD cap' (fs.map FilA.f) := ⟨_, rfl⟩
  rw [← hld] at hBo
  have HBo := Lib.hid hBo
  obtain ⟨od, ec⟩ := ld
  clear hBo hcap hr hR
  cases od with
  | none =>
    clear hld
    go_wp2_with fail
    refine HBo.out.mono ?_
    rintro e w2 ⟨rfl, hb2⟩
    go_wp2_with fail
    go_ret
    exact ⟨rfl, hb1.next hb2⟩
  | some D =>
    obtain ⟨hG, hl, hd, _, _⟩ := loadD_okG hld.symm hnl hsm
    have hC : CalmW D := ⟨hl, hd⟩
    have hK : OkW D := hG.mono (by omega) (by omega)
    obtain ⟨E, hE, _, _, hEl⟩ := sweep_calm hG hC
    have hKE : OkW E := by have h1 := hK.sweepL (D.l.map Prod.fst); change OkG _ _ (sweepD D).2 at h1; rw [hE] at h1; exact h1
    have HEl := Lib.hid hEl
    clear hld hl hd hG hC hEl
    go_wp2_with fail
    refine HBo.out.mono ?_
    rintro e w2 ⟨g, m, g2, rfl, hA2, _, hg2, hm2, _, hb2⟩
    have hb02 := hb1.next hb2
    have hg : w.heap.size ≤ g := by omega
    have hmm : w.heap.size ≤ m := by omega
    clear hg2 hm2
    have HDu := Lib.hid (Dump_callsL hA2 hK.toL)
    go_wp2_with fail
    refine HDu.out.mono ?_
    rintro e w3 ⟨gs, A3, c3, hgs, rfl, ho3, hF3, hb3⟩
    have hb03 := hb02.next hb3
    have hA3 := hA2.below hb3
    have hgl : gs.length ≤ 3518437208880 := by
      have h1 := congrArg List.length hgs.out
      rw [List.length_map] at h1
      have := hK.len
      omega
    have HTh := Lib.hid (theirs5_calls A3 gs c3 w3 (Rd.of_own ho3) hgl)
    go_wp2_with fail
    refine HTh.out.mono ?_
    rintro e w4 ⟨ys, A4, c4, hys, rfl, ho4, hb4⟩
    obtain rfl : ys = gs := hys.out
    have hb04 := hb03.next hb4
    have hA4 := hA3.below hb4
    have hF4 := hF3.below hb4
    have hr4 := Rd.of_own ho4
    have hnm : ∀ x ∈ ys, nameB x.n = true := fun x hx => hK.names x.f (by rw [← hgs.out]; exact List.mem_map.2 ⟨x, hx, rfl⟩)
    have HG2 : Hid ((ys.filter fun x => !endsT x.n).map FilA.f = E.l) := by
      unfold Hid
      rw [HEl.out, ← hgs.out, List.filter_map]
      rfl
    have HSw := Lib.hid (Sweep_calls hA4 hK)
    clear hA2 hA3 hb1 hb2 hb3 hb02 hb03 hs1 ho3 HBo HDu HTh hF3
    go_wp2_with fail
    go_loopw [8, 10] (fun q i wr => SsRel ys w4 q i wr) (fun _ i _ => ys.length - (intOf i).toNat)
    case atStart => exact ⟨0, [], none, 0, rfl, rfl, Nat.zero_le _, rfl, Nat.le_refl _, World.ownsRow_nil _ _ _ _, Below.refl _ _⟩
    case round =>
      obtain ⟨k, zs, A5, c5, rfl, rfl, hk, hz, hzl, ho, hb⟩ := hrel
      have hs := hb.size
      have f1 : IntKind.i64.wrap ((k : Int) + 1) = (k : Int) + 1 := IntWalk.i64_in _ (by omega)
      by_cases hlt : k < ys.length
      · have hd : decide ((k : Int) < (ys.length : Int)) = true := decide_eq_true (by omega)
        have hd' : (k : Int) < (ys.length : Int) := by omega
        have hk0 : (0 : Int) ≤ (k : Int) := by omega
        obtain ⟨x, hx⟩ : ∃ x, ys[k]? = some x := ⟨ys[k], List.getElem?_eq_getElem hlt⟩
        have hxm := List.mem_of_getElem? hx
        have hnx := hnm x hxm
        have hrw := hr4.belowW hb (Nat.le_refl _)
        obtain ⟨bb, off, rfl, hbb, hcell⟩ := hrw.at_ (by omega)
        have q0 : wr.cell? ⟨bb, off + k * 2, none⟩ = _ := hcell _ _ (fc_get hx).1
        have q1 : wr.cell? ⟨bb, off + k * 2 + 1, none⟩ = _ := hcell _ _ (fc_get hx).2
        have hnext : (ys.take (k + 1)).filter (fun x => !endsT x.n) = (ys.take k).filter (fun x => !endsT x.n) ++ (if endsT x.n = true then [] else [x]) := by
          rw [List.take_add_one, hx, List.filter_append]
          congr 1
          show [x].filter _ = _
          rw [List.filter_cons]
          cases endsT x.n <;> rfl
        have hxr := Rd.fileT wr 47 x
        obtain ⟨xn, xb, xA, xc⟩ := x
        simp only at q0 q1 hnx hnext hxr
        have hns := nameB_le hnx
        have hn0 : 0 < xn.size := by unfold nameB at hnx; simp only [Bool.and_eq_true, decide_eq_true_eq] at hnx; omega
        obtain ⟨j, hj⟩ : ∃ j, xn.size = j + 1 := ⟨xn.size - 1, by omega⟩
        have hjl : j < xn.data.toList.length := by rw [str_len]; omega
        have hjs : j < xn.size := by omega
        have hEt := endsT_last hj hjl
        have g1 : IntKind.i64.wrap ((xn.size : Int) - 1) = (j : Int) := by rw [IntWalk.i64_in _ (by omega)]; omega
        have g2 : (j : Int) < (xn.size : Int) := by omega
        have g3 : (0 : Int) ≤ (j : Int) := by omega
        obtain ⟨ch, hch⟩ : ∃ ch, ch = xn.data.toList[j] := ⟨_, rfl⟩
        have hsx : ∀ h : j < xn.size, (xn[j]'h).toNat = ch.toNat := fun h => by rw [str_getD xn h, hch]
        rw [← hch] at hEt
        have HX := Lib.hid hnext
        have HEt := Lib.hid hEt
        clear hx hxm hcell hrw hnext hnx hn0 hj hEt hch hr4 hnm
        by_cases h2 : ch = 126
        · have e2 : ((ch.toNat : Int) == 126) = true := by rw [h2]; rfl
          have HF : Hid (endsT xn = true) := by unfold Hid; rw [HEt.out, h2]; rfl
          clear h2
          go_wp2_with fail
          refine ⟨⟨k + 1, zs, A5, c5, rfl, by go_num, by omega, ?_, by omega, ho, hb⟩, by simp [intOf]; omega⟩
          unfold Hid
          rw [HX.out, if_pos HF.out, List.append_nil, hz.out]
        · have e2 : ((ch.toNat : Int) == 126) = false := beq_eq_false_iff_ne.2 fun e => h2 (UInt8.toNat_inj.1 (by show ch.toNat = 126; omega))
          have HF : Hid (endsT xn = false) := by unfold Hid; rw [HEt.out]; exact decide_eq_false h2
          clear h2
          go_wp2_with (at_builtin; refine appNl rfl (.tmp 46) (.tmp 51) 22 47 _ 2 40 rfl Try.underlying22 info_file rfl (by decide) w4.heap.size _ zs.length (fc zs) rfl (World.ownsRow.alloc ho _) (wr.heap.size + 1) _ 1 1 (fc [⟨xn, xb, xA, xc⟩]) rfl hxr (fc_one _) (by unfold maxLen; omega) (by omega) (by simp; omega) ?_; intro A' c' w' z1 z2 z3 z4 z5)
          have hzl2 : (zs ++ [(⟨xn, xb, xA, xc⟩ : FilA)]).length = zs.length + 1 := by rw [List.length_append]; rfl
          go_wp2_with fail
          refine ⟨⟨k + 1, zs ++ [⟨xn, xb, xA, xc⟩], A', c', by rw [hzl2], by go_num, by omega, ?_, by rw [hzl2]; omega, ?_, hb.trans (((Below.refl _ _).alloc hs _).trans z2)⟩, by simp [intOf]; omega⟩
          · unfold Hid
            rw [HX.out, if_neg (by rw [HF.out]; decide), hz.out]
          · rw [hzl2, fc_append]
            exact z1
      · have hd : decide ((k : Int) < (ys.length : Int)) = false := decide_eq_false (by omega)
        have hdn : decide (k < ys.length) = false := decide_eq_false hlt
        have htk : ys.take k = ys := List.take_of_length_le (by omega)
        have HZ : Hid (zs = ys.filter fun x => !endsT x.n) := by unfold Hid; rw [hz.out, htk]
        have hAr := hA4.below hb
        have hFr := hF4.below hb
        have HSw2 := Sweep_calls hAr hK
        rw [hE] at HSw2
        have HSw3 := Lib.hid HSw2
        have hzle : zs.length ≤ 3518437208880 := by omega
        have hFz : Fls8 wr 0 zs := fun x hx => hFr x (by rw [HZ.out] at hx; exact (List.mem_filter.1 hx).1)
        have hbr := hb04.next hb
        clear htk HSw2 hr4 hnm HSw
        go_wp2_with fail
        refine HSw3.out.mono ?_
        rintro e w6 ⟨rfl, hA6, ht6⟩
        have hb6 := Tw.new hbr ht6 hg hmm
        have ho6 := own_tw hAr ht6 ho (by decide)
        have hF6 := hFz.tw hAr ht6
        have HDu2 := Lib.hid (Dump_callsL hA6 hKE.toL)
        go_wp2_with fail
        refine HDu2.out.mono ?_
        rintro e w8 ⟨gs2, A8, c8, hgs2, rfl, ho8, hF8, hb8⟩
        have hb08 := hb6.next hb8
        have hgl2 : gs2.length ≤ 3518437208880 := by
          have h1 := congrArg List.length hgs2.out
          rw [List.length_map] at h1
          have := hKE.len
          omega
        have HTh2 := Lib.hid (theirs5_calls A8 gs2 c8 w8 (Rd.of_own ho8) hgl2)
        go_wp2_with fail
        refine HTh2.out.mono ?_
        rintro e w9 ⟨vs, A9, c9, hvs, rfl, ho9, hb9⟩
        have hb09 := hb08.next hb9
        have hvl : vs.length ≤ 3518437208880 := by rw [hvs.out]; exact hgl2
        have hF9 : Fls8 w9 0 vs := by rw [hvs.out]; exact hF8.below hb9
        have HSM : Hid (vs.map FilA.f = zs.map FilA.f) := by unfold Hid; rw [hvs.out, hgs2.out, HZ.out]; exact HG2.out.symm
        have HSm := Lib.hid (SameFiles_calls A9 vs c9 A5 zs c5 w9 _ _ _ _ (Rd.of_own ho9) (Rd.of_own (own_belowW (own_belowW ho6 hb8) hb9)) hF9 ((hF6.below hb8).below hb9) (by omega) (by omega))
        go_wp2_with fail
        refine HSm.out.mono ?_
        rintro e w10 ⟨u, nq, rfl, hu, hz10⟩
        obtain rfl : u = true := hu.2 HSM.out
        clear hu
        have hb10 : Below w9.heap.size w9 w10 := by rw [hz10]; exact (Below.refl _ _).drewN' nq
        clear hz10
        go_wp2_with fail
        go_ret
        exact ⟨rfl, hb09.next hb10⟩
end Go.Proofs.Ytegolgkagdlocaa
