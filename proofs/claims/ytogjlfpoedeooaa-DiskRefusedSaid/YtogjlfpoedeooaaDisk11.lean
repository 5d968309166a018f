/- The walks of the layer 'disk', its ninth part: a file is called otherwise. Conditions: the disk is in good order; names below 2^63. -/
import Derived.Test.YtogjlfpoedeooaaDisk10
import Derived.Deep.QuietTactic
import Derived.BigQuiet
namespace Go.Dol
open Go.RowKit
theorem th_ren (D : Dk) (a b : ByteArray) : thD D [b] a = if nameB a = false ∨ nameB b = false then 1 else touchD D a := by
  unfold thD touchD rdD
  cases hA : nameB a <;> cases hB : nameB b <;> cases hd : D.dark <;> simp [hA, hB]
theorem str_eq_b' {a b : ByteArray} (h : a = b) : (a.toList == b.toList) = true := by rw [h]; exact beq_self_eq_true _
theorem str_ne_b' {a b : ByteArray} (h : a ≠ b) : (a.toList == b.toList) = false := by
  refine beq_eq_false_iff_ne.2 fun e => h (ba_ext ?_)
  rw [ByteArray.toList_eq, ByteArray.toList_eq] at e
  exact e
end Go.Dol
namespace Go.Proofs.Ytogjlfpoedeooaa
open Go.RowKit Go.Dol
set_option linter.unusedVariables false
section
variable {w w' : World} {g m : Nat} {D : Dk}

set_option maxRecDepth 100000 in
set_option maxHeartbeats 1600000 in
theorem renF_calls (xd xa xb : Nat) (a b : ByteArray) (ha : a.size ≤ maxLen) (hb : b.size ≤ maxLen) (al : List (Value × Value)) (v : Value) (w : World) (hM : MapL Try.prog 9 w m al) (h1 : w.cell? ⟨g, 1, none⟩ = some (.map (some m)))
    (hd : w.cell? ⟨xd, 0, none⟩ = some (.pointer (some ⟨g, 0, none⟩))) (hA : w.cell? ⟨xa, 0, none⟩ = some (.string a)) (hB : w.cell? ⟨xb, 0, none⟩ = some (.string b)) (ne : xd ≠ m ∧ xa ≠ m ∧ xb ≠ m ∧ g ≠ m)
    (hv : ∀ W : World, W.heap[m]? = w.heap[m]? → (Instr.lookup 65 (.map (some m)) (.string a) false).run Try.prog W = .ok v W) :
    Calls Try.prog 60 #[.pointer (some ⟨xd, 0, none⟩), .pointer (some ⟨xa, 0, none⟩), .pointer (some ⟨xb, 0, none⟩)] w fun e w' =>
      e = .returned (.tuple #[]) ∧ ∃ al1 al', MapL Try.prog 9 w' m al' ∧ MDel al (.string a) al1 ∧ MPut al1 (.string b) v al' ∧ w.grownBy w' (some m) := by
  obtain ⟨ka, hka⟩ := str_key a ha
  obtain ⟨kb, hkb⟩ := str_key b hb
  obtain ⟨n1, n2, n3, n4⟩ := ne
  have l1 := World.block_lt_of_cell? w _ h1
  have l2 := World.block_lt_of_cell? w _ hd
  have l3 := World.block_lt_of_cell? w _ hA
  have l4 := World.block_lt_of_cell? w _ hB
  have hv0 : ∀ k, (Instr.lookup 65 (.map (some m)) (.string a) false).run Try.prog (w.drewN k) = .ok v (w.drewN k) := fun k => hv _ rfl
  have hv1 : (Instr.lookup 65 (.map (some m)) (.string a) false).run Try.prog w.drew = .ok v w.drew := hv _ rfl
  go_enter Try.func60, Try.ntmps60
  go_wp2_with fail
  go_quiet (fail)
  go_wp2_with fail
  obtain ⟨W1, hW1⟩ : ∃ W1, W1 = w.drewN nq := ⟨_, rfl⟩
  rw [← hW1]
  have hM1 : MapL Try.prog 9 W1 m al := by rw [hW1]; exact hM.drewN nq
  have g1 : w.grownBy W1 (some m) := by rw [hW1]; exact grown_drewN (World.grownBy.refl w _) nq
  have e1 : W1.cell? ⟨g, 1, none⟩ = some (.map (some m)) := by rw [hW1]; exact h1
  have ed : W1.cell? ⟨xd, 0, none⟩ = some (.pointer (some ⟨g, 0, none⟩)) := by rw [hW1]; exact hd
  have eA : W1.cell? ⟨xa, 0, none⟩ = some (.string a) := by rw [hW1]; exact hA
  have eB : W1.cell? ⟨xb, 0, none⟩ = some (.string b) := by rw [hW1]; exact hB
  obtain ⟨al1, w2, hrun, hM2, hd2, hg2⟩ := (hM1.drewN 1).drop str_law Try.underlying65 hka 0
  change (Builtin.delete_ #[65, 9] 0 #[.map (some m), .string a]).run Try.prog W1.drew = .ok (.tuple #[]) w2 at hrun
  have hg2' : W1.grownBy w2 (some m) := ⟨hg2.os, hg2.tape, hg2.output, hg2.size, hg2.block⟩
  clear hW1 hv hv0 hv1 h1 hd hA hB hM hM1
  go_still_tail 5, (by kernel_rfl)
  change wpList _ _ _ _ _ W1.drew
  generalize hW : W1.drew = W at hrun
  go_wp2_with fail
  have g2 := grown_step g1 hg2'
  have e1' : w2.cell? ⟨g, 1, none⟩ = some (.map (some m)) := (World.cell?_of_block (hg2'.block g (World.block_lt_of_cell? W1 _ e1) (fun e => by injection e with e; exact n4 e))).trans e1
  have ed' : w2.cell? ⟨xd, 0, none⟩ = some (.pointer (some ⟨g, 0, none⟩)) := (World.cell?_of_block (hg2'.block xd (World.block_lt_of_cell? W1 _ ed) (fun e => by injection e with e; exact n1 e))).trans ed
  have eB' : w2.cell? ⟨xb, 0, none⟩ = some (.string b) := (World.cell?_of_block (hg2'.block xb (World.block_lt_of_cell? W1 _ eB) (fun e => by injection e with e; exact n3 e))).trans eB
  obtain ⟨al', w3, hrun3, hM3, hp3, hg3⟩ := (hM2.drewN 1).update str_law Try.underlying65 hkb v
  change (Instr.mapUpdate 65 (.map (some m)) (.string b) v).run Try.prog w2.drew = .ok () w3 at hrun3
  have hg3' : w2.grownBy w3 (some m) := ⟨hg3.os, hg3.tape, hg3.output, hg3.size, hg3.block⟩
  clear hrun hW hg2 hg2' e1 ed eA eB hM2 g1
  go_still_tail 6, (by kernel_rfl)
  change wpList _ _ _ _ _ w2.drew
  generalize hW2 : w2.drew = W2 at hrun3
  go_wp2_with fail
  go_end0
  exact ⟨rfl, al1, al', hM3, hd2, hp3, grown_step g2 hg3'⟩

/-- A raw write by which a file is called otherwise, if there is room. -/
theorem renRoom_calls (h : Dsk w g m D) (hK : OkD D) (a b : ByteArray) (hna : nameB a = true) (hnb : nameB b = true) (c : List UInt8) (hc : lookF D.l a = some c) (more : Int) (hmore : more = renMore D a b) (xd xa xb : Nat)
    (ne : xd ≠ m ∧ xa ≠ m ∧ xb ≠ m) (ng : xd ≠ g ∧ xa ≠ g ∧ xb ≠ g)
    (h2 : w.cell? ⟨xd, 0, none⟩ = some (.pointer (some ⟨g, 0, none⟩))) (h3 : w.cell? ⟨xa, 0, none⟩ = some (.string a)) (h4 : w.cell? ⟨xb, 0, none⟩ = some (.string b)) :
    Calls Try.prog 44 #[.pointer (some ⟨g, 0, none⟩), .int .i64 more, .func (.func 60) #[] #[.pointer (some ⟨xd, 0, none⟩), .pointer (some ⟨xa, 0, none⟩), .pointer (some ⟨xb, 0, none⟩)]] w (RetOp w g m (roomD D (renNeed D a b) (putF (dropF D.l a) b c))) := by
  have hRR := ren_room hK (b := b) hc hnb hna
  rw [← hmore] at hRR
  have ha2 := nameB_size hna
  have hb2 := nameB_size hnb
  unfold roomD
  by_cases hr : 0 < more ∧ frD D < more
  · rw [if_pos (hRR.1 hr)]
    refine (spend_room h more _ hr.1 hr.2).mono ?_
    rintro e w1 ⟨rfl, rfl⟩
    exact ⟨rfl, h, Tw.refl _ _ _⟩
  rw [if_neg (fun e => hr (hRR.2 e))]
  have hcost : costs (putF (dropF D.l a) b c) = costs D.l + more := by rw [hmore]; exact costs_ren hK hc
  have l2 := World.block_lt_of_cell? w _ h2
  have l3 := World.block_lt_of_cell? w _ h3
  have l4 := World.block_lt_of_cell? w _ h4
  by_cases hl : D.left = 0
  · have HF : spendD D (putF (dropF D.l a) b c) = (5, { D with dark := true, left := -1 }) := if_pos hl
    rw [HF]
    exact spend_cut h more _ hr hl
  · have HF : spendD D (putF (dropF D.l a) b c) = (0, { D with left := lessD D.left, done := D.done + 1, l := putF (dropF D.l a) b c }) := if_neg hl
    rw [HF]
    refine (spend_done h more _ #[.pointer (some ⟨xd, 0, none⟩), .pointer (some ⟨xa, 0, none⟩), .pointer (some ⟨xb, 0, none⟩)] (enters_of Try.func60 (by kernel_rfl) rfl _) hr hl hK.left0 hK.left1 (fun w1 => Dsk w1 g m { D with left := lessD D.left, done := D.done + 1, l := putF (dropF D.l a) b c } ∧ Tw w w1 g m) (fun w1 hB hg => ?_)).mono ?_
    · obtain ⟨al, hB0, hM, hF⟩ := id h
      have hgm := hM.blk_ne hB0
      have hgm' : some m ≠ some g := fun e => by injection e with e; exact hgm e.symm
      have hM1 := hM.grown hg hgm'
      have hF1 := hF.keep hg (Other.blk hB0 (by decide) (Nat.zero_le _))
      have k1 : w1.cell? ⟨g, 1, none⟩ = some (.map (some m)) := by rw [hB.cell]; rfl
      have e2 := (World.cell?_of_block (hg.block xd l2 (fun e => by injection e with e; exact ng.1 e))).trans h2
      have e3 := (World.cell?_of_block (hg.block xa l3 (fun e => by injection e with e; exact ng.2.1 e))).trans h3
      have e4 := (World.cell?_of_block (hg.block xb l4 (fun e => by injection e with e; exact ng.2.2 e))).trans h4
      rcases h.find hK.ord a (by unfold maxLen; omega) with ⟨hl, _⟩ | ⟨c', A, cc, hl, hfc, hcl, hcm, _, hlk⟩
      · rw [hl.out] at hc
        cases hc
      have ec : c' = c := by
        have := hl.out
        rw [hc] at this
        injection this with this
        exact this.symm
      subst ec
      have hk : w1.heap[m]? = w.heap[m]? := hg.block m hM.lt hgm'
      refine (renF_calls xd xa xb a b (by unfold maxLen; omega) (by unfold maxLen; omega) al _ w1 hM1 k1 e2 e3 e4 ⟨ne.1, ne.2.1, ne.2.2, hgm⟩ (fun W hW => hlk W (hW.trans hk))).mono ?_
      rintro e w2 ⟨rfl, al1, al', hM2, hd2, hp2, hg2⟩
      refine ⟨rfl, ⟨al', ?_, hM2, ?_⟩, (Tw.grown hg).step (Tw.grownM hg2)⟩
      · have e1 : frD { D with left := lessD D.left, done := D.done + 1, l := putF (dropF D.l a) b c' } = IntKind.i64.wrap (frD D - more) := free_turn rfl hcost
        rw [e1]
        exact hB.grown hg2 (fun e => by injection e with e; exact hgm e)
      · have hv : Byt w1 (.slice A c'.length cc) c' := ⟨A, cc, rfl, hfc.keep hg (Other.blk hB0 (by decide) (Nat.zero_le _)), hcl, hcm⟩
        exact ((hF1.drop hK.ord hd2).keep hg2 (Other.map hM1)).put (drop_order hK.ord) hp2 (hv.keep hg2 (Other.map hM1))
    · rintro e w1 ⟨rfl, h1, h2⟩
      exact ⟨rfl, h1, h2⟩

set_option maxRecDepth 100000 in
set_option maxHeartbeats 1600000 in
theorem Rename_calls (h : Dsk w g m D) (hK : OkD D) (a b : ByteArray) (ha : a.size ≤ maxLen) (hb : b.size ≤ maxLen) :
    Calls Try.prog 33 #[.pointer (some ⟨g, 0, none⟩), .string a, .string b] w (RetOp w g m (renD D a b)) := by
  have hb1 := (Below.refl w.heap.size w).alloc (Nat.le_refl _) (.cells #[.pointer (some ⟨g, 0, none⟩)] 25)
  have hb2 := hb1.alloc hb1.size (.cells #[.string a] 9)
  have hb3 := hb2.alloc hb2.size (.cells #[.string b] 9)
  have hb4 := hb3.alloc hb3.size (.cells #[.string b] 9)
  have hX := (((Blk.new w 25 [.pointer (some ⟨g, 0, none⟩)]).alloc (.cells #[.string a] 9)).alloc (.cells #[.string b] 9)).alloc (.cells #[.string b] 9)
  have hY := ((Blk.new (w.alloc (.cells #[.pointer (some ⟨g, 0, none⟩)] 25)) 9 [.string a]).alloc (.cells #[.string b] 9)).alloc (.cells #[.string b] 9)
  have hZ := (Blk.new ((w.alloc (.cells #[.pointer (some ⟨g, 0, none⟩)] 25)).alloc (.cells #[.string a] 9)) 9 [.string b]).alloc (.cells #[.string b] 9)
  have hO := own_new (((w.alloc (.cells #[.pointer (some ⟨g, 0, none⟩)] 25)).alloc (.cells #[.string a] 9)).alloc (.cells #[.string b] 9)) 9 (w.heap.size + 1 + 1 + 1) 1 [.string b] rfl (by simp) (by decide)
  rw [World.size_alloc] at hY
  rw [World.size_alloc, World.size_alloc] at hZ
  rw [World.size_alloc, World.size_alloc, World.size_alloc] at hO
  obtain ⟨W4, hW4⟩ : ∃ W, W = (((w.alloc (.cells #[.pointer (some ⟨g, 0, none⟩)] 25)).alloc (.cells #[.string a] 9)).alloc (.cells #[.string b] 9)).alloc (.cells #[.string b] 9) := ⟨_, rfl⟩
  have hX4 : Blk W4 w.heap.size 25 [.pointer (some ⟨g, 0, none⟩)] := by rw [hW4]; exact hX
  have hY4 : Blk W4 (w.heap.size + 1) 9 [.string a] := by rw [hW4]; exact hY
  have hZ4 : Blk W4 (w.heap.size + 1 + 1) 9 [.string b] := by rw [hW4]; exact hZ
  have hB4 : Below w.heap.size w W4 := by rw [hW4]; exact hb4
  have hO4 : W4.ownsRow (w.heap.size + 1 + 1 + 1) 9 1 (.slice (some ⟨w.heap.size + 1 + 1 + 1, 0, none⟩) 1 1) 1 (sc [b]) := by rw [hW4]; exact hO
  have hs4 : W4.heap.size = w.heap.size + 1 + 1 + 1 + 1 := by rw [hW4]; simp
  obtain ⟨hgl, hml⟩ := h.lt
  clear hX hY hZ hO hb1 hb2 hb3 hb4
  have hD4 := h.below hB4
  have hT := there_calls hD4 hK.ord (w.heap.size + 1 + 1 + 1) (some ⟨w.heap.size + 1 + 1 + 1, 0, none⟩) [b] 1 1 rfl (by simp) a hO4 (by omega) ha
  obtain ⟨t, ht⟩ : ∃ t, t = thD D [b] a := ⟨_, rfl⟩
  rw [← ht] at hT
  have HT := Lib.hid hT
  rw [th_ren] at ht
  clear hT
  by_cases h0 : t = 0
  · have hz : nameB a = true ∧ nameB b = true ∧ touchD D a = 0 := by
      rw [h0] at ht
      cases hA : nameB a with
      | false => rw [hA, if_pos (.inl rfl)] at ht; cases ht
      | true =>
        cases hB : nameB b with
        | false => rw [hB, if_pos (.inr rfl)] at ht; cases ht
        | true => rw [hA, hB, if_neg (by simp)] at ht; exact ⟨rfl, rfl, ht.symm⟩
    obtain ⟨hna, hnb, htz⟩ := hz
    obtain ⟨_, _, c, hc⟩ := touch_zero htz
    have HF : Hid (renD D a b = roomD D (renNeed D a b) (putF (dropF D.l a) b c)) := by
      unfold Hid renD
      rw [if_neg (by rw [hna, hnb]; simp), if_neg (by rw [htz]; simp), hc]
      rfl
    have hna2 := nameB_size hna
    have hnb2 := nameB_size hnb
    have HT0 : Hid (t = 0) := h0
    clear ht h0
    have hc1 := hK.cap1
    have hcB : 0 ≤ costD D b ∧ costD D b ≤ 1099511627776 := by
      unfold costD
      cases hl : lookF D.l b with
      | none => simp
      | some d => have := hK.look hl; simp only; omega
    obtain ⟨cb, hcb⟩ : ∃ cb, cb = costD D b := ⟨_, rfl⟩
    rw [← hcb] at hcB
    have f1 : IntKind.i64.wrap ((b.size : Int) - (a.size : Int)) = (b.size : Int) - (a.size : Int) := IntWalk.i64_in _ (by omega)
    have f2 : IntKind.i64.wrap ((b.size : Int) - (a.size : Int) - cb) = (b.size : Int) - (a.size : Int) - cb := IntWalk.i64_in _ (by omega)
    have HCB := Lib.hid hcb
    clear hcb
    have y1 : ∀ W, Below (w.heap.size + 1 + 1 + 1) W4 W → W.cell? ⟨w.heap.size, 0, none⟩ = some (.pointer (some ⟨g, 0, none⟩)) := fun W hW => (hW.cell (p := ⟨w.heap.size, 0, none⟩) (by simp; omega)).trans (by rw [hX4.cell]; rfl)
    have y2 : ∀ W, Below (w.heap.size + 1 + 1 + 1) W4 W → W.cell? ⟨w.heap.size + 1, 0, none⟩ = some (.string a) := fun W hW => (hW.cell (p := ⟨w.heap.size + 1, 0, none⟩) (by simp)).trans (by rw [hY4.cell]; rfl)
    have y3 : ∀ W, Below (w.heap.size + 1 + 1 + 1) W4 W → W.cell? ⟨w.heap.size + 1 + 1, 0, none⟩ = some (.string b) := fun W hW => (hW.cell (p := ⟨w.heap.size + 1 + 1, 0, none⟩) (by simp)).trans (by rw [hZ4.cell]; rfl)
    go_enter Try.func33, Try.ntmps33
    go_wp2_with fail
    rw [← hW4]
    clear hW4
    refine HT.out.mono ?_
    rintro e w1 ⟨rfl, hb5, hD1⟩
    rw [HT0.out]
    have z1 := y1 _ hb5
    have z2 := y2 _ hb5
    have z3 := y3 _ hb5
    have hB5 := hB4.trans (hb5.mono (by omega))
    have hsz5 := hb5.size
    clear y1 y2 y3
    by_cases hab : a = b
    · have he := str_eq_b' hab
      have hmore : Hid ((b.size : Int) - (a.size : Int) = renMore D a b) := by unfold Hid renMore; rw [if_pos hab, hab]; omega
      have hSp := renRoom_calls hD1 hK a b hna hnb c hc ((b.size : Int) - (a.size : Int)) hmore.out w.heap.size (w.heap.size + 1) (w.heap.size + 1 + 1) (by omega) (by omega) z1 z2 z3
      have HSp := Lib.hid hSp
      clear hSp hab
      go_wp2_with fail
      refine HSp.out.mono ?_
      rintro e w6 ⟨rfl, h6, t6⟩
      go_wp2_with fail
      go_ret
      rw [HF.out]
      exact ⟨rfl, h6, (Tw.below hB5).step t6⟩
    · have he := str_ne_b' hab
      have hmore : Hid ((b.size : Int) - (a.size : Int) - cb = renMore D a b) := by
        unfold Hid renMore
        rw [if_neg hab, HCB.out]
        unfold costD
        cases lookF D.l b <;> simp only
      have hSp := renRoom_calls hD1 hK a b hna hnb c hc ((b.size : Int) - (a.size : Int) - cb) hmore.out w.heap.size (w.heap.size + 1) (w.heap.size + 1 + 1) (by omega) (by omega) z1 z2 z3
      have HSp := Lib.hid hSp
      have hCo := cost_calls hD1 hK.ord b (by omega) (fun b => hK.small)
      rw [← HCB.out] at hCo
      have HCo := Lib.hid hCo
      clear hSp hab hCo
      go_wp2_with ((go_at_call 45; refine HCo.out.mono ?_; rintro e w6 ⟨rfl, hw6⟩; obtain rfl := hw6.symm))
      refine HSp.out.mono ?_
      rintro e w6 ⟨rfl, h6, t6⟩
      go_wp2_with fail
      go_ret
      rw [HF.out]
      exact ⟨rfl, h6, (Tw.below hB5).step t6⟩
  · have HF : Hid (renD D a b = (t, D)) := by
      unfold Hid renD
      by_cases hc : nameB a = false ∨ nameB b = false
      · rw [if_pos hc] at ht ⊢
        rw [ht]
      · rw [if_neg hc] at ht ⊢
        rw [if_pos (by rw [← ht]; exact h0), ht]
    have hq : (t == 0) = false := beq_eq_false_iff_ne.2 h0
    clear ht h0
    go_enter Try.func33, Try.ntmps33
    go_wp2_with fail
    rw [← hW4]
    clear hW4
    refine HT.out.mono ?_
    rintro e w1 ⟨rfl, hb5, hD1⟩
    go_wp2_with fail
    go_ret
    rw [HF.out]
    exact ⟨rfl, hD1, Tw.below (hB4.trans (hb5.mono (by omega)))⟩
end
end Go.Proofs.Ytogjlfpoedeooaa
