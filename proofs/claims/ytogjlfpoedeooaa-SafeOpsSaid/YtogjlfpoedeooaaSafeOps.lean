/- The walk of the law SafeOps. Conditions: a name of at most 2^47 bytes. -/
import Derived.Test.YtogjlfpoedeooaaSafe7
import Derived.Test.YtogjlfpoedeooaaSafe8
import Derived.Lib.SlBytesConst
namespace Go.Dol
open Go.RowKit
set_option linter.unusedVariables false
/-- Two saves one behind the other on a disk that is empty, with a shadow laid between: how many raw writes they are. -/
theorem ops_law {n : ByteArray} {z : List UInt8} (hz : z.length ≤ 1023) {D0 : Dk} (h0 : CalmD D0) (hcap : D0.cap = 1048575) (hl : D0.l = []) (hdn : D0.done = 0) :
    saveD D0 n z = (1, D0) ∨ ∃ D1 D2 D3, saveD D0 n z = (0, D1) ∧ CalmD D1 ∧ appD D1 (shd n) [111, 108, 100] = (0, D2) ∧ CalmD D2 ∧ saveD D2 n z = (0, D3) ∧ D1.done = max 1 ((z.length + 63) / 64) + 2 ∧ D3.done = 2 * D1.done + 2 := by
  have hf : frD D0 = 1048575 := by rw [h0.free, hcap, hl]; rfl
  rcases save_calm h0 (n := n) (b := z) (fun _ => by rw [hl]; rfl) with h | ⟨h, hr, hs⟩ | ⟨hr, hs, hn0, D1, e1, L1, k1, k1s, o1⟩
  · exact .inl h
  · exfalso
    have := nameB_le hs
    rw [shd_size] at this
    rw [hf] at hr
    omega
  · refine .inr ?_
    have hn2 : (shd n).size ≤ 200 := nameB_le hs
    rw [shd_size] at hn2
    have c1 := L1.calm
    have hco : costs D1.l = 16 + (n.size : Int) + z.length := by
      have hord := c1.ok.ord
      have hnil : dropF D1.l n = [] := by
        cases hd : dropF D1.l n with
        | nil => rfl
        | cons f r =>
          exfalso
          have hfm : f ∈ dropF D1.l n := by rw [hd]; exact List.mem_cons_self ..
          have hne := drop_gone hord f hfm
          have hm := drop_mem f hfm
          have hls := (look_some hord).2 (show (f.1, f.2) ∈ D1.l from hm)
          by_cases hsf : f.1 = shd n
          · rw [hsf, k1s] at hls
            cases hls
          · rw [o1 f.1 hne hsf, hl] at hls
            cases hls
      have := costs_drop k1
      rw [hnil] at this
      rw [this]
      simp [costs, costF]
    have hf1 : frD D1 = 1048575 - (16 + (n.size : Int) + z.length) := by rw [c1.free, L1.cap, hcap, hco]
    obtain ⟨e2, L2⟩ := app_ok c1 (s := shd n) hs (c := [111, 108, 100]) (by decide) (by rw [appMore_none k1s, hf1, shd_size]; simp; omega)
    rw [k1s, Option.getD_none, List.nil_append] at e2 L2
    obtain ⟨D2, hD2⟩ : ∃ D2, D2 = ({ D1 with done := D1.done + 1, l := putF D1.l (shd n) [111, 108, 100] } : Dk) := ⟨_, rfl⟩
    rw [← hD2] at e2 L2
    have c2 := L2.calm
    have hl2 : lookF D2.l (shd n) = some [111, 108, 100] := by rw [hD2]; show lookF (putF D1.l (shd n) _) (shd n) = _; rw [look_put c1.ok.ord, if_pos rfl]
    obtain ⟨e3, L3⟩ := rem_ok c2 hl2 hs
    obtain ⟨D3, hD3⟩ : ∃ D3, D3 = ({ D2 with done := D2.done + 1, l := dropF D2.l (shd n) } : Dk) := ⟨_, rfl⟩
    rw [← hD3] at e3 L3
    have c3 := L3.calm
    have hl3 : lookF D3.l (shd n) = none := by rw [hD3]; show lookF (dropF D2.l (shd n)) (shd n) = _; rw [look_drop c2.ok.ord, if_pos rfl]
    have hco3 : costs D3.l = 16 + (n.size : Int) + z.length := by
      have h1 : costs D3.l = costs D2.l - (16 + ((shd n).size : Int) + 3) := by rw [hD3]; exact costs_dropF hl2
      have h2 : costs D2.l = costs D1.l + (16 + ((shd n).size : Int) + 3) := by
        rw [hD2]
        show costs (putF D1.l (shd n) [111, 108, 100]) = _
        rw [costs_putF c1.ok.ord, k1s]
        rfl
      omega
    have hf3 : frD D3 = 1048575 - (16 + (n.size : Int) + z.length) := by rw [c3.free, L3.cap, L2.cap, L1.cap, hcap, hco3]
    obtain ⟨D4, e4, L4, _⟩ := laid_ok c3 (n := n) (b := z) hs hn0 hl3 (by rw [hf3]; omega)
    have hne : ¬ (nameB (shd n) = false ∨ n.size = 0 ∨ endsT n = true) := by
      intro hbad
      have : saveD D0 n z = (1, D0) := if_pos hbad
      rw [this] at e1
      injection e1 with e1
      cases e1
    refine ⟨D1, D2, D4, e1, c1, e2, c2, ?_, ?_, ?_⟩
    · unfold saveD
      rw [if_neg hne, if_neg (by rw [c2.dark]; decide), if_pos (by rw [hl2]; rfl), e3, if_neg (by simp)]
      unfold tailD
      rw [if_neg (by rw [hf3]; omega)]
      exact e4
    · rw [L1.done, chunksOf_len, hdn]
      omega
    · rw [L4.done, L3.done, L2.done, L1.done, hdn]
      omega
end Go.Dol
namespace Go.Proofs.Ytogjlfpoedeooaa
open Go.RowKit Go.Dol
set_option linter.unusedVariables false
/-- Bytes of a constant, just made. -/
theorem Far.lit (w : World) (B : Nat) (l : List UInt8) (fr : Nat × Nat) : Far (w.alloc (.cells (bc l).toArray 5 fr)) B (some ⟨w.heap.size, 0, none⟩) l := by
  have hh := heap_alloc_new w (.cells (bc l).toArray 5 fr)
  refine ⟨⟨by rw [bc_length]; omega, fun _ => ⟨w.heap.size, 0, rfl, by simp, fun j u hu => ?_⟩⟩, fun _ k hk => .inr ?_⟩
  · rw [Nat.zero_add, cell_of_row _ _ _ _ _ fr hh]
    simpa using hu
  · injection hk with hk
    have e : w.heap.size = k := hk
    rw [← e]
    exact ⟨_, fr, hh⟩
set_option maxRecDepth 100000 in
set_option maxHeartbeats 4000000 in
theorem safeOps_walk (k : Int) (n : ByteArray) (w : World) (hk : (Lit.int .i64 k).wf = true) (hn : n.size ≤ 140737488351232) :
    Calls Try.prog 4 #[.int .i64 k, .string n] w fun e w' => e = .returned (.bool true) ∧ Below w.heap.size w w' := by
  have hn : n.size ≤ 140737488355328 := Nat.le_trans hn (by decide)
  obtain ⟨hm0, hm1⟩ := mask_range k 10 1023 rfl (by omega)
  obtain ⟨k', hk'⟩ : ∃ k' : Nat, bits .and .i64 k 1023 = (k' : Nat) := ⟨(bits .and .i64 k 1023).toNat, by omega⟩
  rw [hk'] at hm1
  have hk3 : k' ≤ 1023 := by omega
  clear hm0 hm1
  have hbit : bits .and .i64 1048575 1048575 = 1048575 := by decide
  have hsum : costs (([] : List FilA).map FilA.f) ≤ 140737488355328 := by show (0 : Int) ≤ _; decide
  have hld : loadD 1048575 (([] : List FilA).map FilA.f) = (some (newD 1048575), 0) := by
    unfold loadD
    rw [if_neg (by decide)]
    show (if frD (newD 1048575) < 0 then _ else _) = _
    rw [(newD_calm (cap := 1048575) (by decide) (by decide)).free]
    rfl
  have hAw := awake_calls w
  go_enter Try.func4, Try.ntmps4
  go_wp2_with fail
  refine hAw.mono ?_
  rintro e w1 ⟨rfl, hb1⟩
  have hBo := both_calls 1048575 none [] 0 0 rfl w1 Rd.nil (fun x hx => (List.not_mem_nil hx).elim) (by omega) hsum 1048575 (by omega) hbit
  rw [hld] at hBo
  have HBo := Lib.hid hBo
  clear hBo hAw
  go_wp2_with fail
  refine HBo.out.mono ?_
  rintro e w2 ⟨g, m, g2, rfl, hD2, _, hg2, hm2, _, hb2⟩
  have hb02 := hb1.next hb2
  have hw1 := hb1.size
  have hgw : w.heap.size ≤ g := by omega
  have hmw : w.heap.size ≤ m := by omega
  have hc0 : CalmD (newD 1048575) := newD_calm (by decide) (by decide)
  go_wp2_with (refine make8 rfl _ _ rfl k' k' k' rfl rfl rfl rfl (by omega) ?_)
  intro z w3 hz ho3 hb3
  have hzl : z.length = k' := by rw [hz.out]; simp
  have hzl3 : z.length ≤ 1023 := by omega
  have hzl4 : k' ≤ z.length := by omega
  have hzl5 : z.length ≤ k' := by omega
  have hD3 := hD2.below hb3
  have hb03 := hb02.next hb3
  have hzf : Far w3 w.heap.size (some ⟨w2.heap.size, 0, none⟩) z := Far.of_seg (Seg.of_own ho3)
  have hSv := Save_calls hD3 hc0.ok n hn (some ⟨w2.heap.size, 0, none⟩) z z.length (by omega) w.heap.size hzf (Nat.le_refl _) (by unfold maxLen; omega) hb03.size hgw hmw
  have HZ : Hid (z = List.replicate k' 0) := hz
  clear hzl hz
  rcases ops_law (n := n) (z := z) hzl3 hc0 rfl rfl rfl with h1 | ⟨D1, D4, D5, e1, c1, e4, c4, e5, hn1, hn5⟩
  · rw [h1] at hSv
    have HSv := Lib.hid hSv
    clear hSv h1
    go_wp2_with fail
    refine HSv.out.mono ?_
    rintro e w4 ⟨rfl, hD4, ht4⟩
    have HOp := Lib.hid (Ops_calls hD4)
    have h00 : (opsD (newD 1048575).done == 0) = true := by decide
    have h01 : opsD (newD 1048575).done = 0 := by decide
    go_wp2_with ((go_at_call 21; refine HOp.out.mono ?_; rintro e w5 ⟨rfl, hw5⟩; obtain rfl := hw5.symm))
    go_ret
    exact ⟨rfl, Tw.new hb03 ht4 hgw hmw⟩
  · rw [e1] at hSv
    have HSv := Lib.hid hSv
    clear hSv
    go_wp2_with fail
    refine HSv.out.mono ?_
    rintro e w4 ⟨rfl, hD4, ht4⟩
    have hb04 := Tw.new hb03 ht4 hgw hmw
    obtain ⟨o1, ho1⟩ : ∃ o1, o1 = D1.done := ⟨_, rfl⟩
    have ho1s : opsD D1.done = (o1 : Nat) := by rw [ho1]; unfold opsD; exact IntWalk.i64_in _ (by omega)
    obtain ⟨o5, ho5⟩ : ∃ o5, o5 = D5.done := ⟨_, rfl⟩
    have ho5s : opsD D5.done = (o5 : Nat) := by rw [ho5]; unfold opsD; exact IntWalk.i64_in _ (by omega)
    rw [← ho1] at hn1 hn5
    rw [← ho5] at hn5
    have HOp := Ops_calls hD4
    rw [ho1s] at HOp
    have HOp1 := Lib.hid HOp
    have H1 := Lib.hid hn1
    have H5 := Lib.hid hn5
    have HO1 := Lib.hid ho1
    have HO5 := Lib.hid ho5s
    clear HOp ho1s ho5s ho5 ho1
    have ho1a : o1 ≤ 1000 := by omega
    have hq : Hid (max 1 (((k' : Int) + 63) / 64) + 2 = (o1 : Int)) := by unfold Hid; omega
    have hm5 : Hid (2 * (o1 : Int) + 2 = (o5 : Int)) := by unfold Hid; omega
    have kc : (convert 23 23 (.slice (some ⟨w4.heap.size, 0, none⟩) 3 3)).run Try.prog (w4.alloc (.cells #[.int .u8 111, .int .u8 108, .int .u8 100] 5)) = .ok (.slice (some ⟨w4.heap.size, 0, none⟩) 3 3) (w4.alloc (.cells #[.int .u8 111, .int .u8 108, .int .u8 100] 5 (3, 4))) := Lib.run_convert_bytes_const (P := Try.prog) w4 23 5 #[.int .u8 111, .int .u8 108, .int .u8 100] 3 3 Try.underlying23 Try.underlying5
    have hbl : Below w4.heap.size w4 (w4.alloc (.cells #[.int .u8 111, .int .u8 108, .int .u8 100] 5 (3, 4))) := (Below.refl _ _).alloc (Nat.le_refl _) _
    have hlit := Far.lit w4 w.heap.size [111, 108, 100] (3, 4)
    have hD5 := hD4.below hbl
    have hAp := Append_calls hD5 c1.ok (shd n) (by rw [shd_size]; unfold maxLen; omega) w.heap.size (some ⟨w4.heap.size, 0, none⟩) [111, 108, 100] 3 hlit hgw
    rw [e4] at hAp
    have HAp := Lib.hid hAp
    have hb05 := hb04.next hbl
    clear hn1 hn5 hAp hlit
    go_wp2_with ((go_at_call 21; refine HOp1.out.mono ?_; rintro e w5 ⟨rfl, hw5⟩; obtain rfl := hw5.symm))
    refine HAp.out.mono ?_
    rintro e w6 ⟨rfl, hD6, ht6⟩
    have hb06 := Tw.new hb05 ht6 hgw hmw
    clear kc
    go_wp2_with (refine make8 rfl _ _ rfl k' k' k' rfl rfl rfl rfl (by omega) ?_)
    intro z2 w7 hz2 ho7 hb7
    have hb07 := hb06.next hb7
    have hD7 := hD6.below hb7
    have hzz : z2 = z := hz2.out.trans HZ.out.symm
    subst hzz
    have hzf2 : Far w7 w.heap.size (some ⟨w6.heap.size, 0, none⟩) z2 := Far.of_seg (Seg.of_own ho7)
    have hS2 := Save_calls hD7 c4.ok n hn (some ⟨w6.heap.size, 0, none⟩) z2 z2.length (by omega) w.heap.size hzf2 (Nat.le_refl _) (by unfold maxLen; omega) hb07.size hgw hmw
    rw [e5] at hS2
    have HS2 := Lib.hid hS2
    clear hS2
    go_wp2_with fail
    refine HS2.out.mono ?_
    rintro e w8 ⟨rfl, hD8, ht8⟩
    have hb08 := Tw.new hb07 ht8 hgw hmw
    have HOp := Ops_calls hD8
    rw [HO5.out] at HOp
    have HOp8 := Lib.hid HOp
    clear HOp
    have f1 : IntKind.i64.wrap ((k' : Int) + 63) = (k' : Int) + 63 := IntWalk.i64_in _ (by omega)
    have f2 : ((k' : Int) + 63).tdiv 64 = ((k' : Int) + 63) / 64 := Int.tdiv_eq_ediv_of_nonneg (by omega)
    have f3 : IntKind.i64.wrap (2 * (o1 : Int)) = 2 * (o1 : Int) := IntWalk.i64_in _ (by omega)
    have f4 : IntKind.i64.wrap (2 * (o1 : Int) + 2) = 2 * (o1 : Int) + 2 := IntWalk.i64_in _ (by omega)
    have f5 : IntKind.i64.wrap (max 1 (((k' : Int) + 63) / 64) + 2) = max 1 (((k' : Int) + 63) / 64) + 2 := IntWalk.i64_in _ (by omega)
    have f6 : ((o1 : Int) == max 1 (((k' : Int) + 63) / 64) + 2) = true := beq_iff_eq.2 hq.out.symm
    have f7 : ((o5 : Int) == 2 * (o1 : Int) + 2) = true := beq_iff_eq.2 hm5.out.symm
    have f8 : IntKind.i64.wrap (((k' : Int) + 63) / 64) = ((k' : Int) + 63) / 64 := IntWalk.i64_in _ (by omega)
    go_wp2_with ((go_at_call 21; refine HOp8.out.mono ?_; rintro e w9 ⟨rfl, hw9⟩; obtain rfl := hw9.symm))
    go_ret
    exact ⟨rfl, hb08⟩
end Go.Proofs.Ytogjlfpoedeooaa
