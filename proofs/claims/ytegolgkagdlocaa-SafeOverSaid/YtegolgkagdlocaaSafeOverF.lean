/- The walk of the law SafeOver. Conditions: at most 3,518,437,208,780 files; names and bytes of each below 2^47. -/
import Derived.Test.YtegolgkagdlocaaSafe7
import Derived.Test.YtegolgkagdlocaaSafe8
import Derived.Test.YtegolgkagdlocaaCutLaw
import Derived.Test.YtegolgkagdlocaaLoadOk
import Derived.Test.YtegolgkagdlocaaDisk14
import Derived.Test.YtegolgkagdlocaaFilSame
namespace Go.Proofs.Ytegolgkagdlocaa
open Go.RowKit Go.Dol
set_option linter.unusedVariables false
set_option maxRecDepth 100000 in
set_option maxHeartbeats 4000000 in
theorem safeOver_walk (A : Option Addr) (fs : List FilA) (c : Nat) (Aa : Option Addr) (a : List UInt8) (ca : Nat) (Ab : Option Addr) (b : List UInt8) (cb : Nat) (w : World) (hr : Rd w w.heap.size 2 A fs.length (fc fs)) (hR : Fls8 w w.heap.size fs) (hnl : fs.length ≤ 3518437208780) (hsm : ∀ x ∈ fs, x.n.size ≤ 140737488351232 ∧ x.b.length ≤ 140737488351232)
    (hra : Rd w w.heap.size 1 Aa a.length (bc a)) (hca : a.length ≤ ca) (hma : ca ≤ maxLen) (hal : a.length ≤ 140737488351232) (hrb : Rd w w.heap.size 1 Ab b.length (bc b)) (hcb : b.length ≤ cb) (hmb : cb ≤ maxLen) (hbl : b.length ≤ 140737488351232) :
    Calls Try.prog 5 #[.slice A fs.length c, .slice Aa a.length ca, .slice Ab b.length cb] w fun e w' => e = .returned (.bool true) ∧ Below w.heap.size w w' := by
  have hbit : bits .and .i64 1048575 1048575 = 1048575 := by decide
  have hfa := Far.of_rd hra (Nat.le_refl _)
  have hfb := Far.of_rd hrb (Nat.le_refl _)
  obtain ⟨n, hn⟩ : ∃ n : ByteArray, n = ⟨#[122, 122]⟩ := ⟨_, rfl⟩
  have hnb : nameB n = true := by rw [hn]; decide
  have hsz : n.size = 2 := by rw [hn]; rfl
  have hsh := nameB_shd hnb (by omega)
  have hE : endsT n = false := by rw [hn]; decide
  have hAw := awake_calls w
  go_enter Try.func5, Try.ntmps5
  go_wp2_with fail
  refine hAw.mono ?_
  rintro e w1 ⟨rfl, hb1⟩
  clear hAw
  have hs1 := hb1.size
  have hBo := both_callsL 1048575 A fs fs.length c rfl w1 ((hr.belowW hb1 (Nat.le_refl _)).more hs1) ((hR.below hb1).more hs1) (by omega) (fun x hx => by have := hsm x hx; omega) 1048575 (by omega) hbit
  obtain ⟨ld, hld⟩ : ∃ ld, ld = loadD 1048575 (fs.map FilA.f) := ⟨_, rfl⟩
  rw [← hld] at hBo
  have HBo := Lib.hid hBo
  obtain ⟨od, ec⟩ := ld
  clear hBo
  cases od with
  | none =>
    clear hld
    go_wp2_with fail
    refine HBo.out.mono ?_
    rintro e w2 ⟨rfl, hb2⟩
    go_wp2_with fail
    go_ret
    exact ⟨rfl, hb1.next hb2⟩
  | some D =>
    obtain ⟨hG, hl0, hd0, _, _⟩ := loadD_okG hld.symm hnl hsm
    clear hld
    go_wp2_with fail
    refine HBo.out.mono ?_
    rintro e w2 ⟨g, m, g2, rfl, hD2, _, hg2, hm2, _, hb2⟩
    have hb02 := hb1.next hb2
    have hw1 := hb1.size
    have hgw : w.heap.size ≤ g := by omega
    have hmw : w.heap.size ≤ m := by omega
    have hK : OkW D := hG.mono (by omega) (by omega)
    obtain ⟨e1, D1, hS1, q1, q2, q3, o1, r1⟩ := save_calmW hG.ord hd0 hl0 (n := n) (b := a) hsh (by omega) hE
    obtain ⟨e2, D2, hS2, p1, p2, p3, o2, r2⟩ := save_calmW q1 q2 q3 (n := n) (b := b) hsh (by omega) hE
    have hG1 : OkG 3518437208781 140737488351232 D1 := by have h1 := (hG.mono (by omega) (Nat.le_refl _) : OkG 3518437208781 140737488351232 D).save n a (by have := hG.len; omega) hal; rw [hS1] at h1; exact h1
    have hG2 : OkG 3518437208782 140737488351232 D2 := by have h1 := (hG1.mono (by omega) (Nat.le_refl _) : OkG 3518437208782 140737488351232 D1).save n b (by have := hG1.len; omega) hbl; rw [hS2] at h1; exact h1
    have hK1 : OkW D1 := hG1.mono (by omega) (by omega)
    have hK2 : OkW D2 := hG2.mono (by omega) (by omega)
    have hkeep : Hid (D.l.filter (fun f => keepN n f.1) = D2.l.filter fun f => keepN n f.1) := filter_same hG.ord p1 (keepN n) fun x hx => by
      obtain ⟨h1, h2⟩ := keep_ne hx
      rw [o2 x h1 h2, o1 x h1 h2]
    have HDu := Lib.hid (Dump_callsL hD2 hK.toL)
    go_wp2_with fail
    refine HDu.out.mono ?_
    rintro e w3 ⟨gs, A3, c3, hgs, rfl, ho3, hF3, hb3⟩
    have hb03 := hb02.next hb3
    have hD3 := hD2.below hb3
    have hol := hK.len
    have hgl : gs.length ≤ 3518437208880 := by have h1 := congrArg List.length hgs.out; rw [List.length_map] at h1; omega
    have HSh := Lib.hid (shadowed_calls A3 gs c3 n w3 (Rd.of_own ho3) (by omega) (by omega))
    rw [hn] at HSh
    go_wp2_with fail
    refine HSh.out.mono ?_
    rintro e w4 ⟨ys, A4, c4, hys, rfl, ho4, hb4⟩
    rw [← hn] at hys
    have hb04 := hb03.next hb4
    have hD4 := hD3.below hb4
    have hFy : Fls8 w4 0 ys := by rw [hys.out]; exact (hF3.below hb4).filter _
    have hyl : ys.length ≤ 3518437208880 := by have h1 := List.length_filter_le (fun x : FilA => keepN n x.n) gs; rw [hys.out]; omega
    have hSv1 := Save_callsW hD4 hK n (by omega) Aa a ca (by omega) (by have := hG.len; omega) (by omega) w.heap.size (hfa.below hb04) hca hma hb04.size hgw hmw
    rw [hS1, hn] at hSv1
    have HSv1 := Lib.hid hSv1
    clear hSv1 HSh HDu
    go_wp2_with fail
    refine HSv1.out.mono ?_
    rintro e w5 ⟨rfl, hD5x, ht5⟩
    have hD5 : Dsk w5 g m D1 := hD5x
    clear hD5x
    have hb05 := Tw.new hb04 ht5 hgw hmw
    have ho5 := own_tw hD4 ht5 ho4 (by decide)
    have hF5 := Fls8.tw hD4 ht5 hFy
    have hSv2 := Save_callsW hD5 hK1 n (by omega) Ab b cb (by omega) (by have := hG1.len; omega) (by omega) w.heap.size (hfb.below hb05) hcb hmb hb05.size hgw hmw
    rw [hS2, hn] at hSv2
    have HSv2 := Lib.hid hSv2
    clear hSv2
    go_wp2_with fail
    refine HSv2.out.mono ?_
    rintro e w6 ⟨rfl, hD6x, ht6⟩
    have hD6 : Dsk w6 g m D2 := hD6x
    clear hD6x
    have hb06 := Tw.new hb05 ht6 hgw hmw
    have ho6 := own_tw hD5 ht6 ho5 (by decide)
    have hF6 := Fls8.tw hD5 ht6 hF5
    clear hl0 hd0 q1 q2 q3 o1 o2 p2 p3
    rcases r1 with rfl | ⟨rfl, _⟩
    · go_wp2_with fail
      go_ret
      exact ⟨rfl, hb06⟩
    rcases r2 with rfl | ⟨rfl, k2⟩
    · go_wp2_with fail
      go_ret
      exact ⟨rfl, hb06⟩
    have hRd := Read_calls hD6 p1 n (fun x hx => by rw [k2] at hx; injection hx with hx; rw [← hx]; omega)
    have hrd : readD D2 n = (b, 0) := by unfold readD; rw [if_neg (by rw [hnb]; decide), k2]
    rw [hrd, hn] at hRd
    have HRd := Lib.hid hRd
    clear hRd hrd
    go_wp2_with fail
    refine HRd.out.mono ?_
    rintro e w7 ⟨z, A7, c7, he7, rfl, ho7, hb7⟩
    have hz : z = b := he7.out
    subst hz
    have hb07 := hb06.next hb7
    have hD7 := hD6.below hb7
    have ho7y := own_belowW ho6 hb7
    have hF7 := hF6.below hb7
    have v1 : (convert 23 9 (.slice A7 z.length c7)).run Try.prog w7 = .ok (.string ⟨z.toArray⟩) w7 := conv8f (Rd.of_own ho7)
    have v2 : (convert 23 9 (.slice Ab z.length cb)).run Try.prog w7 = .ok (.string ⟨z.toArray⟩) w7 := conv8f (hfb.below hb07).1
    have HDu := Lib.hid (Dump_callsL hD7 hK2.toL)
    go_wp2_with fail
    refine HDu.out.mono ?_
    rintro e w8 ⟨gs2, A8, c8, hgs2, rfl, ho8, hF8, hb8⟩
    have hb08 := hb07.next hb8
    have hol2 := hK2.len
    have hgl2 : gs2.length ≤ 3518437208880 := by have h1 := congrArg List.length hgs2.out; rw [List.length_map] at h1; omega
    have HSh := Lib.hid (shadowed_calls A8 gs2 c8 n w8 (Rd.of_own ho8) (by omega) (by omega))
    rw [hn] at HSh
    clear v1 v2
    go_wp2_with fail
    refine HSh.out.mono ?_
    rintro e w9 ⟨ys2, A9, c9, hys2, rfl, ho9, hb9⟩
    rw [← hn] at hys2
    have hyl2 : ys2.length ≤ 3518437208880 := by have h1 := List.length_filter_le (fun x : FilA => keepN n x.n) gs2; rw [hys2.out]; omega
    have hF9 : Fls8 w9 0 ys2 := by rw [hys2.out]; exact (hF8.below hb9).filter _
    have hsame : ys.map FilA.f = ys2.map FilA.f := by
      rw [hys.out, hys2.out, filter_files gs (keepN n), filter_files gs2 (keepN n), hgs.out, hgs2.out, hkeep.out]
    have HSm := SameFiles_calls A4 ys c4 A9 ys2 c9 w9 _ _ _ _ (Rd.of_own (own_belowW (own_belowW ho7y hb8) hb9)) (Rd.of_own ho9) ((hF7.below hb8).below hb9) hF9 (by omega) (by omega)
    have HSm2 := Lib.hid HSm
    have HQ := Lib.hid hsame
    clear HSm hsame
    go_wp2_with fail
    refine HSm2.out.mono ?_
    rintro e w10 ⟨u, nq, rfl, hu, rfl⟩
    obtain rfl : u = true := hu.2 HQ.out
    go_wp2_with fail
    go_ret
    exact ⟨rfl, (hb08.next hb9).drewN' nq⟩
end Go.Proofs.Ytegolgkagdlocaa
