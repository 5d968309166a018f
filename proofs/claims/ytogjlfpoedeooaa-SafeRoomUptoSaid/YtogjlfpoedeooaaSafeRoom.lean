/- The walk of the law SafeRoom. Conditions: at most 1048576 values and letters. -/
import Derived.Test.YtogjlfpoedeooaaSafe7
import Derived.Test.YtogjlfpoedeooaaSafe8
import Derived.Test.YtogjlfpoedeooaaLoadLaw
namespace Go.Proofs.Ytogjlfpoedeooaa
open Go.RowKit Go.Dol
set_option linter.unusedVariables false
set_option maxRecDepth 100000 in
set_option maxHeartbeats 4000000 in
theorem safeRoom_walk (k : Int) (A : Option Addr) (fs : List FilA) (c : Nat) (n : ByteArray) (Ab : Option Addr) (b : List UInt8) (cb : Nat) (w : World) (_ : (Lit.int .i64 k).wf = true) (hr : Rd w w.heap.size 2 A fs.length (fc fs)) (hR : Fls8 w w.heap.size fs) (hnl : fs.length ≤ 1048576) (hsum : costs (fs.map FilA.f) ≤ 16777216)
    (hn : n.size ≤ 1048576) (hrb : Rd w w.heap.size 1 Ab b.length (bc b)) (hcb : b.length ≤ cb) (hmb : cb ≤ maxLen) (hbl : b.length ≤ 1048576) :
    Calls Try.prog 3 #[.int .i64 k, .slice A fs.length c, .string n, .slice Ab b.length cb] w fun e w' => e = .returned (.bool true) ∧ Below w.heap.size w w' := by
  obtain ⟨cap, hcap⟩ : ∃ cap, bits .and .i64 k 1048575 = cap := ⟨_, rfl⟩
  have hm := mask_range k 20 1048575 rfl (by omega)
  rw [hcap] at hm
  have hfb := Far.of_rd hrb (Nat.le_refl _)
  have hAw := awake_calls w
  go_enter Try.func3, Try.ntmps3
  go_wp2_with fail
  refine hAw.mono ?_
  rintro e w1 ⟨rfl, hb1⟩
  clear hAw
  have hs1 := hb1.size
  have hBo := both_calls k A fs fs.length c rfl w1 ((hr.belowW hb1 (Nat.le_refl _)).more hs1) ((hR.below hb1).more hs1) (by omega) (by omega) cap hm hcap
  have HBo := Lib.hid hBo
  clear hBo
  rcases loadD_ways (cap := cap) (l := fs.map FilA.f) (by omega) with ⟨q, hq⟩ | ⟨D, hD, hcalm, hcapD, hdn⟩
  · rw [hq] at HBo
    go_wp2_with fail
    refine HBo.out.mono ?_
    rintro e w2 ⟨rfl, hb2⟩
    go_wp2_with fail
    go_ret
    exact ⟨rfl, hb1.next hb2⟩
  · rw [hD] at HBo
    go_wp2_with fail
    refine HBo.out.mono ?_
    rintro e w2 ⟨g, m, g2, rfl, hD2, _, hg2, hm2, _, hb2⟩
    have hb02 := hb1.next hb2
    have hw1 := hb1.size
    have hgw : w.heap.size ≤ g := by omega
    have hmw : w.heap.size ≤ m := by omega
    have hRem := Remove_calls hD2 hcalm.ok (shd n) (by rw [shd_size]; unfold maxLen; omega)
    obtain ⟨D1, hD1⟩ : ∃ D1, D1 = (remD D (shd n)).2 := ⟨_, rfl⟩
    obtain ⟨c1, l1, _⟩ := rem_calm hcalm (shd n)
    rw [← hD1] at c1 l1
    have HRem := Lib.hid hRem
    clear hRem
    go_wp2_with fail
    refine HRem.out.mono ?_
    rintro e w3 ⟨rfl, hD3, ht3⟩
    rw [← hD1] at hD3
    clear hD1
    have hb03 := Tw.new hb02 ht3 hgw hmw
    have hfr := Free_calls hD3
    have HFr := Lib.hid hfr
    have hSv := Save_calls hD3 c1.ok n (by omega) Ab b cb (by omega) w.heap.size (hfb.below hb03) hcb hmb hb03.size hgw hmw
    have hnl2 : frD D1 ≤ 1099511627776 ∧ 0 ≤ frD D1 := by
      have h1 := c1.nonneg
      have h2 := c1.free
      have h3 := c1.ok.cap1
      have h4 := costs_nonneg D1.l
      omega
    obtain ⟨fr, hfre⟩ : ∃ fr, fr = frD D1 := ⟨_, rfl⟩
    clear hfr
    rcases save_calm c1 (n := n) (b := b) l1 with h1 | ⟨h1, hlt, hnb⟩ | ⟨hge, hnb, hn0, D2, h1, L2, k2, k2s, o2⟩
    · rw [h1] at hSv
      have HSv := Lib.hid hSv
      clear hSv h1
      go_wp2_with ((go_at_call 16; refine HFr.out.mono ?_; rintro e w5 ⟨rfl, hw5⟩; obtain rfl := hw5.symm))
      refine HSv.out.mono ?_
      rintro e w4 ⟨rfl, hD4, ht4⟩
      go_wp2_with fail
      go_ret
      exact ⟨rfl, Tw.new hb03 ht4 hgw hmw⟩
    · rw [h1] at hSv
      have HSv := Lib.hid hSv
      clear hSv h1
      have hnd := Need_calls n (b.length : Int)
      have hdl : decide (frD D1 < 16 + ((n.size : Int) + 1) + max (b.length : Int) 0) = true := decide_eq_true (by omega)
      rw [← hfre] at hdl
      have hdlI := of_decide_eq_true hdl
      have HFr1 := HFr.out
      rw [← hfre] at HFr1
      have HFr2 := Lib.hid HFr1
      have HE := Lib.hid hfre
      clear HFr1 HFr hlt hfre
      go_wp2_with ((go_at_call 16; refine HFr2.out.mono ?_; rintro e w5 ⟨rfl, hw5⟩; obtain rfl := hw5.symm))
      refine HSv.out.mono ?_
      rintro e w4 ⟨rfl, hD4, ht4⟩
      have HNd := Lib.hid (hnd w4 (by omega) (by omega) (by omega))
      have hfr4 := Free_calls hD4
      rw [← HE.out] at hfr4
      have HFr4 := Lib.hid hfr4
      clear hfr4 hnd
      go_wp2_with (first
        | (go_at_call 18; refine HNd.out.mono ?_; rintro e w5 ⟨rfl, hw5⟩; obtain rfl := hw5.symm)
        | (go_at_call 16; refine HFr4.out.mono ?_; rintro e w5 ⟨rfl, hw5⟩; obtain rfl := hw5.symm))
      go_ret
      exact ⟨rfl, Tw.new hb03 ht4 hgw hmw⟩
    · rw [h1] at hSv
      have HSv := Lib.hid hSv
      clear hSv h1
      have hnm : nameB n = true := shd_name hnb hn0
      have c2 := L2.calm
      have hnd := Need_calls n (b.length : Int)
      have hdl : decide (16 + ((n.size : Int) + 1) + max (b.length : Int) 0 ≤ frD D1) = true := decide_eq_true (by omega)
      rw [← hfre] at hdl
      have hdlI := of_decide_eq_true hdl
      have HFr1 := HFr.out
      rw [← hfre] at HFr1
      have HFr2 := Lib.hid HFr1
      have HE := Lib.hid hfre
      clear HFr1 HFr hge hfre
      go_wp2_with ((go_at_call 16; refine HFr2.out.mono ?_; rintro e w5 ⟨rfl, hw5⟩; obtain rfl := hw5.symm))
      refine HSv.out.mono ?_
      rintro e w4 ⟨rfl, hD4, ht4⟩
      have hb04 := Tw.new hb03 ht4 hgw hmw
      have hRd := Read_calls hD4 c2.ok.ord n (fun x hx => by rw [k2] at hx; injection hx with hx; rw [← hx]; omega)
      have hrd : readD D2 n = (b, 0) := by unfold readD; rw [if_neg (by rw [hnm]; decide), k2]
      rw [hrd] at hRd
      have HRd := Lib.hid hRd
      clear hRd hrd
      go_wp2_with fail
      refine HRd.out.mono ?_
      rintro e w5 ⟨z, A5, c5, he5, rfl, ho5, hb5⟩
      have hz : z = b := he5.out
      subst hz
      have hb05 := hb04.next hb5
      have hD5 := hD4.below hb5
      have HNd := Lib.hid (hnd w5 (by omega) (by omega) (by omega))
      have hhas := Has_calls hD5 c2.ok.ord (shd n) (by rw [shd_size]; unfold maxLen; omega)
      rw [k2s] at hhas
      have HHas := Lib.hid hhas
      have hfr5 := Free_calls hD5
      have h0fr : (0 : Int) ≤ frD D2 := c2.nonneg
      obtain ⟨fr2, hfre2⟩ : ∃ fr2, fr2 = frD D2 := ⟨_, rfl⟩
      rw [← hfre2] at hfr5 h0fr
      have h0d : decide ((0 : Int) ≤ fr2) = true := decide_eq_true h0fr
      have HFr5 := Lib.hid hfr5
      have v1 : (convert 23 9 (.slice A5 z.length c5)).run Try.prog w5 = .ok (.string ⟨z.toArray⟩) w5 := conv8f (Rd.of_own ho5)
      have v2 : (convert 23 9 (.slice Ab z.length cb)).run Try.prog w5 = .ok (.string ⟨z.toArray⟩) w5 := conv8f (hfb.below hb05).1
      have HE2 := Lib.hid hfre2
      clear hnd hhas hfr5 hfre2
      go_wp2_with (first
        | (go_at_call 18; refine HNd.out.mono ?_; rintro e w6 ⟨rfl, hw6⟩; obtain rfl := hw6.symm)
        | (go_at_call 20; refine HHas.out.mono ?_; rintro e w6 ⟨rfl, hw6⟩; obtain rfl := hw6.symm)
        | (go_at_call 16; refine HFr5.out.mono ?_; rintro e w6 ⟨rfl, hw6⟩; obtain rfl := hw6.symm))
      go_ret
      exact ⟨rfl, hb05⟩
end Go.Proofs.Ytogjlfpoedeooaa
