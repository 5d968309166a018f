/- The walk of the law DiskLoads. Conditions: at most 3,518,437,208,780 files; names and bytes of each below 2^47. -/
import Derived.Test.YtogjlfpoedeooaaAlike
import Derived.Test.YtogjlfpoedeooaaRd5
import Derived.Test.YtogjlfpoedeooaaDiskAwake
namespace Go.Dol
open Go.RowKit
set_option linter.unusedVariables false
theorem loadL_mem {acc l m : List Fil} (h : loadL acc l = some m) : ∀ f ∈ m, f ∈ acc ∨ f ∈ l := by
  induction l generalizing acc with
  | nil =>
    have : acc = m := by simpa [loadL] using h
    subst this
    exact fun f hf => .inl hf
  | cons g q ih =>
    unfold loadL at h
    split at h
    · cases h
    · intro f hf
      rcases ih h f hf with h1 | h1
      · rcases put_mem f h1 with h2 | h2
        · exact .inr (by rw [h2]; exact List.mem_cons_self ..)
        · exact .inl h2
      · exact .inr (List.mem_cons_of_mem _ h1)
theorem put_end {l : List Fil} {n : ByteArray} {b : List UInt8} (h : ∀ f ∈ l, sLt f.1 n = true) : putF l n b = l ++ [(n, b)] := by
  induction l with
  | nil => rfl
  | cons f r ih =>
    unfold putF
    rw [if_pos (h f (List.mem_cons_self ..)), ih fun g hg => h g (List.mem_cons_of_mem _ hg)]
    rfl
/-- Files in order, loaded, are what they were. -/
theorem loadL_again {acc l : List Fil} (h : InOrder (acc ++ l)) (hn : ∀ f ∈ l, nameB f.1 = true) : loadL acc l = some (acc ++ l) := by
  induction l generalizing acc with
  | nil => simp [loadL]
  | cons f r ih =>
    obtain ⟨h1, h2, h3⟩ := List.pairwise_append.1 h
    have hlt : ∀ g ∈ acc, sLt g.1 f.1 = true := fun g hg => h3 g hg f (List.mem_cons_self ..)
    unfold loadL
    rw [if_neg, put_end hlt]
    · have e : acc ++ f :: r = (acc ++ [f]) ++ r := by simp
      rw [e] at h ⊢
      exact ih h fun g hg => hn g (List.mem_cons_of_mem _ hg)
    · rintro (h4 | h4)
      · rw [hn f (List.mem_cons_self ..)] at h4
        cases h4
      · rw [(look_none h1).2 fun g hg => sLt_ne (hlt g hg)] at h4
        cases h4
theorem loadD_some {cap k : Int} {l : List Fil} {D : Dk} (h : loadD cap l = (some D, k)) : k = 0 ∧ 0 ≤ cap ∧ cap ≤ 1099511627776 ∧ D.cap = cap ∧ loadL [] l = some D.l ∧ D = ⟨cap, D.l, 0, -1, false⟩ ∧ ¬ frD D < 0 := by
  unfold loadD at h
  by_cases hc : cap < 0 ∨ 1099511627776 < cap
  · rw [if_pos hc] at h
    cases h
  · rw [if_neg hc] at h
    cases hm : loadL [] l with
    | none => rw [hm] at h; cases h
    | some m =>
      rw [hm] at h
      simp only at h
      by_cases hf : frD ⟨cap, m, 0, -1, false⟩ < 0
      · rw [if_pos hf] at h
        cases h
      · rw [if_neg hf] at h
        injection h with h1 h2
        injection h1 with h1
        subst h1
        exact ⟨h2.symm, by omega, by omega, rfl, rfl, rfl, hf⟩
theorem loadD_again {cap k : Int} {l : List Fil} {D : Dk} (h : loadD cap l = (some D, k)) : loadD cap D.l = (some D, 0) := by
  obtain ⟨_, h0, h1, _, hl, hD, hf⟩ := loadD_some h
  have ho : InOrder D.l := loadL_order hl List.Pairwise.nil
  have hn : ∀ f ∈ D.l, nameB f.1 = true := loadL_names hl (fun f hf => (List.not_mem_nil hf).elim)
  have h2 : loadL [] D.l = some D.l := loadL_again (acc := []) ho hn
  unfold loadD
  rw [if_neg (by omega), h2]
  simp only
  rw [← hD, if_neg hf]
end Go.Dol
namespace Go.Proofs.Ytogjlfpoedeooaa
open Go.RowKit Go.Dol
set_option linter.unusedVariables false
theorem loadD_ok {cap k : Int} {fs : List FilA} {D : Dk} (h : loadD cap (fs.map FilA.f) = (some D, k)) (hnl : fs.length ≤ 3518437208880) (hsm : ∀ x ∈ fs, x.n.size ≤ 140737488355328 ∧ x.b.length ≤ 140737488355328) : OkL D := by
  obtain ⟨_, h0, h1, hc, hl, hD, hf⟩ := loadD_some h
  refine ⟨loadL_order hl List.Pairwise.nil, by omega, by omega, loadL_names hl (fun f hf => (List.not_mem_nil hf).elim), ?_, fun f hf => ?_⟩
  · have h2 := loadL_len hl
    rw [List.length_map, List.length_nil] at h2
    omega
  · rcases loadL_mem hl f hf with h2 | h2
    · exact (List.not_mem_nil h2).elim
    · obtain ⟨x, hx, rfl⟩ := List.mem_map.1 h2
      exact (hsm x hx).2
set_option maxRecDepth 100000 in
set_option maxHeartbeats 8000000 in
theorem diskLoads_walk (cap : Int) (A : Option Addr) (fs : List FilA) (c : Nat) (w : World) (hcw : (Lit.int .i64 cap).wf = true) (hr : Rd w w.heap.size 2 A fs.length (fc fs)) (hR : Fls8 w w.heap.size fs) (hnl : fs.length ≤ 3518437208780) (hsm : ∀ x ∈ fs, x.n.size ≤ 140737488355328 ∧ x.b.length ≤ 140737488355328) :
    Calls Try.prog 6 #[.int .i64 cap, .slice A fs.length c] w fun e w' => e = .returned (.bool true) ∧ Below w.heap.size w w' := by
  have hcap : -9223372036854775808 ≤ cap ∧ cap ≤ 9223372036854775807 := by
    simp [Lit.wf] at hcw
    exact hcw
  have hAw := awake4_calls w
  go_enter Try.func6, Try.ntmps6
  go_wp2_with fail
  refine hAw.mono ?_
  rintro e w1 ⟨rfl, hb1⟩
  clear hAw hcw
  have hMi := Mine_calls A fs c w1 ((hr.belowW hb1 (Nat.le_refl _)).more hb1.size) (by omega)
  have HMi := Lib.hid hMi
  clear hMi
  go_wp2_with fail
  refine HMi.out.mono ?_
  rintro e w2 ⟨ys, A2, c2, hys, rfl, ho2, hb2⟩
  obtain rfl : ys = fs := hys.out
  have hb12 := hb1.next hb2
  have hLo := Load_callsL cap A2 ys ys.length c2 rfl w2 (Rd.of_own ho2) ((hR.below hb12).more hb12.size) hcap (by omega) hsm
  obtain ⟨ld, hld⟩ : ∃ ld, ld = loadD cap (ys.map FilA.f) := ⟨_, rfl⟩
  rw [← hld] at hLo
  obtain ⟨od, ec⟩ := ld
  cases od with
  | none =>
    have HLo := Lib.hid hLo
    have HLD := Lib.hid hld
    clear hLo hld
    go_wp2_with fail
    refine HLo.out.mono ?_
    rintro e w3 ⟨rfl, hb3⟩
    have hb13 := hb12.next hb3
    have hRl := refLoad_callsL cap A ys ys.length c rfl w3 ((hr.belowW hb13 (Nat.le_refl _)).more hb13.size) ((hR.below hb13).more hb13.size) (by omega) hsm
    rw [← HLD.out] at hRl
    have HRl := Lib.hid hRl
    clear hRl
    go_wp2_with fail
    refine HRl.out.mono ?_
    rintro e w4 ⟨rfl, hb4⟩
    go_wp2_with fail
    go_ret
    exact ⟨rfl, hb13.next hb4⟩
  | some D =>
    have hK : OkL D := loadD_ok hld.symm (by omega) hsm
    have hag := loadD_again hld.symm
    obtain rfl : ec = 0 := (loadD_some hld.symm).1
    have HAG := Lib.hid hag
    have HLo := Lib.hid hLo
    have HLD := Lib.hid hld
    clear hLo hld hag
    go_wp2_with fail
    refine HLo.out.mono ?_
    rintro e w3 ⟨g, m, rfl, hA3, hg3, hm3, hb3⟩
    have hb13 := hb12.next hb3
    have hRl := refLoad_callsL cap A ys ys.length c rfl w3 ((hr.belowW hb13 (Nat.le_refl _)).more hb13.size) ((hR.below hb13).more hb13.size) (by omega) hsm
    rw [← HLD.out] at hRl
    have HRl := Lib.hid hRl
    clear hRl
    go_wp2_with fail
    refine HRl.out.mono ?_
    rintro e w4 ⟨gr, rfl, hR4, hgr4, hb4⟩
    have hb14 := hb13.next hb4
    have hA4 := hA3.below hb4
    have HDu := Lib.hid (Dump_callsL hA4 hK)
    go_wp2_with fail
    refine HDu.out.mono ?_
    rintro e w5 ⟨gs, A5, c5, hgs, rfl, ho5, hF5, hb5⟩
    have hb15 := hb14.next hb5
    have hA5 := hA4.below hb5
    have hR5 := hR4.below hb5
    have hgl : gs.length ≤ 3518437208880 := by
      have h1 := congrArg List.length hgs.out
      rw [List.length_map] at h1
      have := hK.len
      omega
    have hgsm : ∀ x ∈ gs, x.n.size ≤ 140737488355328 ∧ x.b.length ≤ 140737488355328 := by
      intro x hx
      have h1 : x.f ∈ D.l := by rw [← hgs.out]; exact List.mem_map.2 ⟨x, hx, rfl⟩
      have h2 : x.n.size ≤ 200 := hK.sizes _ h1
      exact ⟨by omega, hK.small _ h1⟩
    have hL2 := Load_callsL cap A5 gs gs.length c5 rfl w5 (Rd.of_own ho5) (hF5.more (Nat.zero_le _)) hcap (by omega) hgsm
    rw [hgs.out, HAG.out] at hL2
    have HL2 := Lib.hid hL2
    clear hL2
    go_wp2_with fail
    refine HL2.out.mono ?_
    rintro e w6 ⟨g2, m2, rfl, hB6, hg6, hm6, hb6⟩
    have hb16 := hb15.next hb6
    have HAl := Lib.hid (alike_callsL (hA5.below hb6) (hR5.below hb6) hK)
    go_wp2_with fail
    refine HAl.out.mono ?_
    rintro e w7 ⟨rfl, hb7⟩
    have HAl2 := Lib.hid (alike_callsL (hB6.below hb7) ((hR5.below hb6).below hb7) hK)
    go_wp2_with fail
    refine HAl2.out.mono ?_
    rintro e w8 ⟨rfl, hb8⟩
    go_wp2_with fail
    go_ret
    exact ⟨rfl, (hb16.next hb7).next hb8⟩
end Go.Proofs.Ytogjlfpoedeooaa
