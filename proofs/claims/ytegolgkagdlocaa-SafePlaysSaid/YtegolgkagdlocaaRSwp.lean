/- The document's sweep, and what it leans on: names, shadows, needs. Conditions: disks in good order. -/
import Derived.Test.YtegolgkagdlocaaSwp
import Derived.Test.YtegolgkagdlocaaAppV
namespace Go.Dol
open Go.RowKit
theorem endsT_none {s : ByteArray} (h : s.size = 0) : endsT s = false := by
  unfold endsT
  have e : s.data.toList = [] := List.eq_nil_of_length_eq_zero (by rw [str_len]; exact h)
  rw [e]
  rfl
theorem endsT_last {s : ByteArray} {k : Nat} (h : s.size = k + 1) (hk : k < s.data.toList.length) : endsT s = decide (s.data.toList[k] = 126) := by
  unfold endsT
  have hl : s.data.toList.length = k + 1 := by rw [str_len]; exact h
  have e3 : s.data.toList.getLast? = some s.data.toList[k] := by
    rw [List.getLast?_eq_getElem?, show s.data.toList.length - 1 = k by omega]
    exact List.getElem?_eq_getElem hk
  rw [e3]
  by_cases hx : s.data.toList[k] = 126 <;> simp [hx]
end Go.Dol
namespace Go.Proofs.Ytegolgkagdlocaa
open Go.RowKit Go.Dol
set_option linter.unusedVariables false
section
variable {w w' : World} {g m gr : Nat} {D : Dk}
theorem info_str : (Try.prog.info? 9).map (fun i => (i.zero, i.size, i.bytes)) = some (some (.string ⟨#[]⟩), 1, 16) := by kernel_rfl
def RNmRel (ns : List ByteArray) (w : World) (q i : Value) (wr : World) : Prop :=
  ∃ (k : Nat) (A : Option Addr) (c : Nat), q = .slice A k c ∧ i = .int .i64 k ∧ k ≤ ns.length ∧ wr.ownsRow w.heap.size 9 1 (.slice A k c) k (sc (ns.take k)) ∧ Below w.heap.size w wr
set_option maxRecDepth 100000 in
set_option maxHeartbeats 2000000 in
theorem refNames_calls (h : Rdk w gr D) (hlen : D.l.length ≤ 3518437208880) : Calls Try.prog 61 #[.pointer (some ⟨gr, 0, none⟩)] w (RetNames w D) := by
  have hg0 := h.lt
  obtain ⟨fs, A, c, k0, k1, k2, k3, k4, hr, hc, hcm, hF, hL⟩ := h.row
  have hll : D.l.length = fs.length := by rw [← hL.out, List.length_map]
  obtain ⟨ns, hns⟩ : ∃ ns, ns = D.l.map Prod.fst := ⟨_, rfl⟩
  have hnl : ns.length = fs.length := by rw [hns, List.length_map]; exact hll
  have hl1 : ns.length ≤ fs.length := by omega
  have hl2 : fs.length ≤ ns.length := by omega
  have hl3 : ns.length ≤ 3518437208880 := by omega
  have HD : Hid (D.l.length = ns.length) := by unfold Hid; omega
  have HNS := Lib.hid hns
  clear hll hnl
  go_enter Try.func61, Try.ntmps61
  go_wp2_with fail
  go_loopw [3, 4] (fun q i wr => RNmRel ns w q i wr) (fun _ i _ => fs.length - (intOf i).toNat)
  case atStart => exact ⟨0, none, 0, rfl, rfl, Nat.zero_le _, World.ownsRow_nil _ _ _ _, Below.refl _ _⟩
  case round =>
    obtain ⟨k, A5, c5, rfl, rfl, hk, ho, hb⟩ := hrel
    have hs := hb.size
    have k1' : wr.cell? ⟨gr, 1, none⟩ = some (.slice A fs.length c) := (hb.cell (p := ⟨gr, 1, none⟩) hg0).trans k1
    by_cases hlt : k < fs.length
    · have hd : decide ((k : Int) < (fs.length : Int)) = true := decide_eq_true (by omega)
      have hd' : (k : Int) < (fs.length : Int) := by omega
      have hk0 : (0 : Int) ≤ (k : Int) := by omega
      obtain ⟨x, hx⟩ : ∃ x, fs[k]? = some x := ⟨fs[k], List.getElem?_eq_getElem hlt⟩
      have hxn : ns[k]? = some x.n := by rw [hns, List.getElem?_map, ← hL.out, List.getElem?_map, hx]; rfl
      have hnext : sc (ns.take k) ++ [.string x.n] = sc (ns.take (k + 1)) := by rw [List.take_add_one, hxn]; simp [sc]
      obtain ⟨bb, off, rfl, hbb, hcell⟩ := hr.at_ (by omega)
      have p0 : w.cell? ⟨bb, off + k * 2, none⟩ = _ := hcell _ _ (fc_get hx).1
      have q0 := (hb.cell (p := ⟨bb, off + k * 2, none⟩) hbb).trans p0
      obtain ⟨xn, xb, xA, xc⟩ := x
      simp only at q0 hnext
      have f1 : IntKind.i64.wrap ((k : Int) + 1) = (k : Int) + 1 := IntWalk.i64_in _ (by omega)
      have HX := Lib.hid hnext
      clear hx hxn hcell hnext hr p0 k0 k1 k2 k3 k4 hF hns
      go_wp2_with (at_builtin; refine appVl rfl (.tmp 14) (.tmp 23) 89 9 _ 16 rfl Try.underlying89 info_str rfl w.heap.size _ k (sc (ns.take k)) rfl (World.ownsRow.alloc ho _) (wr.heap.size + 1) _ 1 1 [.string xn] rfl (Rd.new1 wr 9 (.string xn)) (by simp [Value.oneCell']) (by unfold maxLen; omega) (by omega) (by simp; omega) ?_; intro A' c' w' z1 z2 z3 z4 z5)
      go_wp2_with fail
      refine ⟨⟨k + 1, A', c', rfl, by go_num, by omega, ?_, hb.trans (((Below.refl _ _).alloc hs _).trans z2)⟩, by simp [intOf]; omega⟩
      rw [← HX.out]
      exact z1
    · have hd : decide ((k : Int) < (fs.length : Int)) = false := decide_eq_false (by omega)
      have hdn : decide (k < fs.length) = false := decide_eq_false hlt
      have hkl : k = ns.length := by omega
      have htk : ns.take k = ns := List.take_of_length_le (by omega)
      rw [htk] at ho
      have HK : Hid (k = D.l.length) := by unfold Hid; rw [HD.out]; exact hkl
      clear htk hkl
      go_wp2_with fail
      go_ret
      have hk := HK.out
      subst hk
      rw [HNS.out] at ho
      exact ⟨A5, c5, rfl, ho, hb⟩
set_option maxRecDepth 100000 in
set_option maxHeartbeats 1000000 in
theorem shadow_calls (s : ByteArray) (w : World) (hs : s.size ≤ maxLen) : Calls Try.prog 62 #[.string s] w fun e w' => e = .returned (.bool (endsT s)) ∧ w' = w := by
  have hsm : s.size ≤ 9223372036854775807 := by unfold maxLen at hs; omega
  rcases Nat.eq_zero_or_pos s.size with h0 | h0
  · have HE := Lib.hid (endsT_none h0)
    have d1 : decide ((s.size : Int) > 0) = false := decide_eq_false (by omega)
    have d1n : decide (0 < s.size) = false := decide_eq_false (by omega)
    clear h0
    go_enter Try.func62, Try.ntmps62
    go_wp2_with fail
    go_ret
    rw [HE.out]
    exact ⟨rfl, rfl⟩
  · obtain ⟨k, hk⟩ : ∃ k, s.size = k + 1 := ⟨s.size - 1, by omega⟩
    have hkl : k < s.data.toList.length := by rw [str_len]; omega
    have hks : k < s.size := by omega
    have hE := endsT_last hk hkl
    have d1 : decide ((s.size : Int) > 0) = true := decide_eq_true (by omega)
    have d1n : decide (0 < s.size) = true := decide_eq_true h0
    have f1 : IntKind.i64.wrap ((s.size : Int) - 1) = (k : Int) := by rw [IntWalk.i64_in _ (by omega)]; omega
    have d2 : (k : Int) < (s.size : Int) := by omega
    have d3 : (0 : Int) ≤ (k : Int) := by omega
    obtain ⟨c, hc⟩ : ∃ c, c = s.data.toList[k] := ⟨_, rfl⟩
    have hsx : ∀ h : k < s.size, (s[k]'h).toNat = c.toNat := fun h => by rw [str_getD s h, hc]
    rw [← hc] at hE
    have HE := Lib.hid hE
    clear hE hc hk h0
    by_cases h2 : c = 126
    · have g2 : ((c.toNat : Int) == 126) = true := by rw [h2]; rfl
      have HF : Hid (endsT s = true) := by unfold Hid; rw [HE.out, h2]; rfl
      clear h2
      go_enter Try.func62, Try.ntmps62
      go_wp2_with fail
      go_ret
      rw [HF.out]
      exact ⟨rfl, rfl⟩
    · have g2 : ((c.toNat : Int) == 126) = false := beq_eq_false_iff_ne.2 fun e => h2 (UInt8.toNat_inj.1 (by show c.toNat = 126; omega))
      have HF : Hid (endsT s = false) := by unfold Hid; rw [HE.out]; exact decide_eq_false h2
      clear h2
      go_enter Try.func62, Try.ntmps62
      go_wp2_with fail
      go_ret
      rw [HF.out]
      exact ⟨rfl, rfl⟩
/-- The rounds of the document's sweep. -/
def RSwRel (D : Dk) (ns : List ByteArray) (A : Option Addr) (c gr : Nat) (w : World) (i : Value) (wr : World) : Prop :=
  ∃ (k : Nat) (E : Dk), i = .int .i64 k ∧ k ≤ ns.length ∧ Hid (sweepL D ns = sweepL E (ns.drop k)) ∧ OkW E ∧ Rdk wr gr E ∧ wr.ownsRow w.heap.size 9 1 (.slice A ns.length c) ns.length (sc ns) ∧ w.grownBy wr (some gr)
set_option maxRecDepth 100000 in
set_option maxHeartbeats 4000000 in
theorem refSweep_calls (h : Rdk w gr D) (hK : OkW D) : Calls Try.prog 26 #[.pointer (some ⟨gr, 0, none⟩)] w (RetR w gr (sweepD D)) := by
  have HNm := Lib.hid (refNames_calls h hK.len)
  obtain ⟨ns, hns⟩ : ∃ ns, ns = D.l.map Prod.fst := ⟨_, rfl⟩
  have hnl : D.l.length = ns.length := by rw [hns, List.length_map]
  have hsm := names_small hK
  rw [← hns] at hsm
  have hlen := hK.len
  have HNL := Lib.hid hnl
  have HSW : Hid (sweepD D = sweepL D ns) := by unfold Hid; rw [hns]; rfl
  go_enter Try.func26, Try.ntmps26
  go_wp2_with fail
  refine HNm.out.mono ?_
  rintro e w2 ⟨A, c, rfl, ho2, hb2⟩
  have h2 := h.below hb2
  rw [← hns] at ho2
  rw [hnl] at ho2 ⊢
  have hg2 : w.grownBy w2 (some gr) := grown_of_below hb2 _
  have hnle : ns.length ≤ 3518437208880 := by omega
  clear hns hnl
  go_wp2_with fail
  go_loopw [4] (fun i wr => RSwRel D ns A c gr w i wr) (fun i _ => ns.length - (intOf i).toNat)
  case atStart => exact ⟨0, D, rfl, Nat.zero_le _, rfl, hK, h2, ho2, hg2⟩
  case round =>
    clear h2 ho2 hg2 hb2
    obtain ⟨k, E, rfl, hk, hsw, hKE, hE, ho, hg⟩ := hrel
    have f1 : IntKind.i64.wrap ((k : Int) + 1) = (k : Int) + 1 := IntWalk.i64_in _ (by omega)
    by_cases hlt : k < ns.length
    · have hd : decide ((k : Int) < (ns.length : Int)) = true := decide_eq_true (by omega)
      have hd' : (k : Int) < (ns.length : Int) := by omega
      have hk0 : (0 : Int) ≤ (k : Int) := by omega
      obtain ⟨x, hx⟩ : ∃ x, ns[k]? = some x := ⟨ns[k], List.getElem?_eq_getElem hlt⟩
      have hxs := hsm x (List.mem_of_getElem? hx)
      obtain ⟨bb, off, rfl, hbb, hcell⟩ := (Rd.of_own ho).at_ (by omega)
      have q0 : wr.cell? ⟨bb, off + k, none⟩ = some (.string x) := hcell _ _ (sc_get hx)
      have hdr : ns.drop k = x :: ns.drop (k + 1) := by
        rw [List.drop_eq_getElem_cons hlt]
        congr 1
        have := List.getElem?_eq_getElem hlt
        rw [hx] at this
        injection this with this
        exact this.symm
      have hsw2 := hsw.out
      rw [hdr, sweepL_cons] at hsw2
      have hS := shadow_calls x wr (by unfold maxLen; omega)
      cases hT : endsT x with
      | false =>
        rw [hT] at hS hsw2
        rw [if_neg (by decide)] at hsw2
        have HS := Lib.hid hS
        have H2 := Lib.hid hsw2
        clear hx hcell hdr hS hsw2 hT
        go_wp2_with ((go_at_call 62; (with_reducible refine HS.out.mono ?_); rintro e z0 ⟨rfl, hz0⟩; obtain rfl := hz0.symm))
        exact ⟨⟨k + 1, E, by go_num, by omega, H2, hKE, hE, ho, hg⟩, by simp [intOf]; omega⟩
      | true =>
        rw [hT] at hS hsw2
        rw [if_pos rfl] at hsw2
        have HS := Lib.hid hS
        have hR := refRemove_calls hE hKE x (by unfold maxLen; omega) (by have := hKE.len; omega)
        have hK2 := hKE.rem x
        obtain ⟨er, E2, hr⟩ : ∃ er E2, remD E x = (er, E2) := ⟨_, _, rfl⟩
        rw [hr] at hR hK2 hsw2
        simp only at hK2 hsw2
        have HR := Lib.hid hR
        clear hx hcell hdr hS hT hR hr
        go_wp2_with ((go_at_call 62; (with_reducible refine HS.out.mono ?_); rintro e z0 ⟨rfl, hz0⟩; obtain rfl := hz0.symm))
        refine HR.out.mono ?_
        rintro e w3 ⟨rfl, hE3, hg3⟩
        obtain ⟨fs4, A4, c4, hB4, _⟩ := id hE
        have ho3 := own_other ho hB4 (by decide) hg3
        clear hB4
        by_cases he0 : er = 0
        · rw [if_neg (by rw [he0]; simp)] at hsw2
          have H2 := Lib.hid hsw2
          subst he0
          clear hsw2
          go_wp2_with fail
          exact ⟨⟨k + 1, E2, by go_num, by omega, H2, hK2, hE3, ho3, grown_step hg hg3⟩, by simp [intOf]; omega⟩
        · rw [if_pos he0] at hsw2
          have H2 := Lib.hid hsw2
          have hz : (er == 0) = false := beq_eq_false_iff_ne.2 he0
          clear hsw2 he0
          go_wp2_with fail
          go_ret
          rw [HSW.out, H2.out]
          exact ⟨rfl, hE3, grown_step hg hg3⟩
    · have hd : decide ((k : Int) < (ns.length : Int)) = false := decide_eq_false (by omega)
      have hdn : decide (k < ns.length) = false := decide_eq_false hlt
      have hE0 : Hid (sweepL D ns = (0, E)) := by unfold Hid; rw [hsw.out, List.drop_eq_nil_of_le (by omega)]; rfl
      go_wp2_with fail
      go_ret
      rw [HSW.out, hE0.out]
      exact ⟨rfl, hE, hg⟩
end
end Go.Proofs.Ytegolgkagdlocaa
