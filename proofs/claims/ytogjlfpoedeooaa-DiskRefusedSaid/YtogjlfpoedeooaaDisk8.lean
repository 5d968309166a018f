/- The walks of the layer 'disk', its sixth part: a file is taken away. Conditions: the disk is in good order; names below 2^63. -/
import Derived.Test.YtogjlfpoedeooaaDisk7
import Derived.StillTailTactics
import Derived.Deep.RegionHeld3
namespace Go.Proofs.Ytogjlfpoedeooaa
open Go.RowKit Go.Dol
set_option linter.unusedVariables false
section
variable {w w' : World} {g m : Nat} {D : Dk}

set_option maxRecDepth 100000 in
set_option maxHeartbeats 800000 in
theorem remF_calls (x y : Nat) (n : ByteArray) (hn : n.size ≤ maxLen) (al : List (Value × Value)) (w : World) (hM : MapL Try.prog 9 w m al) (h1 : w.cell? ⟨g, 1, none⟩ = some (.map (some m)))
    (hx : w.cell? ⟨x, 0, none⟩ = some (.pointer (some ⟨g, 0, none⟩))) (hy : w.cell? ⟨y, 0, none⟩ = some (.string n)) :
    Calls Try.prog 46 #[.pointer (some ⟨x, 0, none⟩), .pointer (some ⟨y, 0, none⟩)] w fun e w' => e = .returned (.tuple #[]) ∧ ∃ al', MapL Try.prog 9 w' m al' ∧ MDel al (.string n) al' ∧ w.grownBy w' (some m) := by
  obtain ⟨kl, hkl⟩ := str_key n hn
  obtain ⟨al', w2, hrun, hM2, hd2, hg2⟩ := (hM.drewN 1).drop str_law Try.underlying65 hkl 0
  change (Builtin.delete_ #[65, 9] 0 #[.map (some m), .string n]).run Try.prog w.drew = .ok (.tuple #[]) w2 at hrun
  go_enter Try.func46, Try.ntmps46
  go_wp2_with fail
  go_still_tail 5, (by kernel_rfl)
  change wpList _ _ _ _ _ w.drew
  generalize hW : w.drew = W at hrun
  go_wp2_with fail
  go_end0
  refine ⟨rfl, al', hM2, hd2, ?_⟩
  subst hW
  exact ⟨hg2.os, hg2.tape, hg2.output, hg2.size, hg2.block⟩

/-- A raw write that takes a file away. -/
theorem remSpend_calls (h : Dsk w g m D) (hK : OkD D) (n : ByteArray) (b : List UInt8) (hb : lookF D.l n = some b) (more : Int) (hmore : more = -costD D n) (x y : Nat) (hxg : x ≠ g) (hyg : y ≠ g) (hxl : x < w.heap.size) (hyl : y < w.heap.size)
    (hx : w.cell? ⟨x, 0, none⟩ = some (.pointer (some ⟨g, 0, none⟩))) (hy : w.cell? ⟨y, 0, none⟩ = some (.string n)) :
    Calls Try.prog 44 #[.pointer (some ⟨g, 0, none⟩), .int .i64 more, .func (.func 46) #[] #[.pointer (some ⟨x, 0, none⟩), .pointer (some ⟨y, 0, none⟩)]] w (RetOp w g m (spendD D (dropF D.l n))) := by
  have hc : costD D n = 16 + n.size + b.length := by unfold costD; rw [hb]
  have hn := nameB_size (hK.named hb)
  have hneg : ¬ (0 < more ∧ frD D < more) := by omega
  by_cases hl : D.left = 0
  · have HF : spendD D (dropF D.l n) = (5, { D with dark := true, left := -1 }) := if_pos hl
    rw [HF]
    exact spend_cut h more _ hneg hl
  · have HF : spendD D (dropF D.l n) = (0, { D with left := lessD D.left, done := D.done + 1, l := dropF D.l n }) := if_neg hl
    rw [HF]
    refine (spend_done h more _ #[.pointer (some ⟨x, 0, none⟩), .pointer (some ⟨y, 0, none⟩)] (enters_of Try.func46 (by kernel_rfl) rfl _) hneg hl hK.left0 hK.left1 (fun w1 => Dsk w1 g m { D with left := lessD D.left, done := D.done + 1, l := dropF D.l n } ∧ Tw w w1 g m) (fun w1 hB hg => ?_)).mono ?_
    · obtain ⟨al, hB0, hM, hF⟩ := id h
      have hgm := hM.blk_ne hB0
      have hM1 := hM.grown hg (fun e => by injection e with e; exact hgm e.symm)
      have hF1 := hF.keep hg (Other.blk hB0 (by decide) (Nat.zero_le _))
      have k1 : w1.cell? ⟨g, 1, none⟩ = some (.map (some m)) := by rw [hB.cell]; rfl
      have hx1 := (World.cell?_of_block (hg.block x hxl (fun e => by injection e with e; exact hxg e))).trans hx
      have hy1 := (World.cell?_of_block (hg.block y hyl (fun e => by injection e with e; exact hyg e))).trans hy
      refine (remF_calls x y n (by unfold maxLen; omega) al w1 hM1 k1 hx1 hy1).mono ?_
      rintro e w2 ⟨rfl, al', hM2, hd2, hg2⟩
      refine ⟨rfl, ⟨al', ?_, hM2, ?_⟩, (Tw.grown hg).step (Tw.grownM hg2)⟩
      · have e1 : frD { D with left := lessD D.left, done := D.done + 1, l := dropF D.l n } = IntKind.i64.wrap (frD D - more) := free_turn rfl (by
          have := costs_dropF hb
          simp only
          omega)
        rw [e1]
        exact hB.grown hg2 (fun e => by injection e with e; exact hgm e)
      · exact (hF1.drop hK.ord hd2).keep hg2 (Other.map hM1)
    · rintro e w1 ⟨rfl, h1, h2⟩
      exact ⟨rfl, h1, h2⟩

set_option maxRecDepth 100000 in
set_option maxHeartbeats 1600000 in
theorem Remove_calls (h : Dsk w g m D) (hK : OkD D) (n : ByteArray) (hn : n.size ≤ maxLen) : Calls Try.prog 15 #[.pointer (some ⟨g, 0, none⟩), .string n] w (RetOp w g m (remD D n)) := by
  obtain ⟨t, ht⟩ : ∃ t, t = touchD D n := ⟨_, rfl⟩
  have ha := (Below.refl w.heap.size w).alloc (Nat.le_refl _) (.cells #[.pointer (some ⟨g, 0, none⟩)] 25)
  have hX := Blk.new w 25 [.pointer (some ⟨g, 0, none⟩)]
  have hb0 := ha.alloc ha.size (.cells #[.string n] 9)
  have hY := Blk.new (w.alloc (.cells #[.pointer (some ⟨g, 0, none⟩)] 25)) 9 [.string n]
  have hX2 := hX.alloc (.cells #[.string n] 9)
  rw [World.size_alloc] at hY
  obtain ⟨W, hW⟩ : ∃ W, W = (w.alloc (.cells #[.pointer (some ⟨g, 0, none⟩)] 25)).alloc (.cells #[.string n] 9) := ⟨_, rfl⟩
  change Blk _ _ _ _ at hX2
  have hX3 : Blk W w.heap.size 25 [.pointer (some ⟨g, 0, none⟩)] := by rw [hW]; exact hX2
  have hY3 : Blk W (w.heap.size + 1) 9 [.string n] := by rw [hW]; exact hY
  have hb1 : Below w.heap.size w W := by rw [hW]; exact hb0
  have hD := h.below hb1
  have hT := there_calls hD hK.ord W.heap.size none [] 0 0 rfl (by simp) n (World.ownsRow_nil _ _ _ _) (Nat.le_refl _) hn
  obtain ⟨hgl, hml⟩ := h.lt
  rw [th_touch, ← ht] at hT
  clear hX hX2 hY hb0 ha
  by_cases h0 : t = 0
  · obtain ⟨hnb, _, b, hb⟩ := touch_zero (ht.symm.trans h0)
    have HF : Hid (remD D n = spendD D (dropF D.l n)) := by unfold Hid remD; rw [if_neg (by rw [← ht, h0]; simp)]
    rw [h0] at hT
    clear ht h0
    have HT := Lib.hid hT
    clear hT
    have hlook := hK.look hb
    have hcap := hK.cap1
    obtain ⟨c, hc⟩ : ∃ c, c = costD D n := ⟨_, rfl⟩
    have hcb : c = 16 + n.size + b.length := by rw [hc]; unfold costD; rw [hb]
    have f1 : IntKind.i64.wrap (-c) = -c := IntWalk.i64_in _ (by omega)
    have HC := Lib.hid hc
    have hcN : 0 ≤ c ∧ c ≤ 1099511627776 := by omega
    clear hcb hc
    go_enter Try.func15, Try.ntmps15
    go_wp2_with fail
    rw [← hW]
    refine HT.out.mono ?_
    rintro e w1 ⟨rfl, hb2, hD1⟩
    have hX1 := hX3.below hb2 hX3.lt
    have hY1 := hY3.below hb2 hY3.lt
    have y1 : w1.cell? ⟨w.heap.size, 0, none⟩ = some (.pointer (some ⟨g, 0, none⟩)) := by rw [hX1.cell]; rfl
    have y2 : w1.cell? ⟨w.heap.size + 1, 0, none⟩ = some (.string n) := by rw [hY1.cell]; rfl
    have hcost := cost_calls hD1.drew hK.ord n (by omega) (fun b => hK.small)
    rw [← HC.out] at hcost
    have hspend := remSpend_calls hD1.drew hK n b hb (-c) (by rw [HC.out]) w.heap.size (w.heap.size + 1) (by omega) (by omega) hX1.lt hY1.lt y1 y2
    have hb3 := hb1.trans (hb2.mono hb1.size)
    have hxl := hX1.lt
    have hyl := hY1.lt
    clear hX1 hY1 hX3 hY3 HT
    go_wp2_with fail
    go_region_held3 (fun w' => w'.cell? ⟨w.heap.size, 0, none⟩ = some (.pointer (some ⟨g, 0, none⟩)) ∧ w'.cell? ⟨w.heap.size + 1, 0, none⟩ = some (.string n)) (first | exact ⟨q1, q2⟩ | go_keep) ((first
      | (go_at_call 45; (with_reducible refine hcost.mono ?_); rintro e w3 ⟨rfl, hw3⟩; obtain rfl := hw3.symm)
      | (go_at_call 44; (with_reducible refine hspend.mono ?_); rintro e w3 ⟨rfl, h4, h5⟩;
          have q1 : w3.cell? ⟨w.heap.size, 0, none⟩ = some (.pointer (some ⟨g, 0, none⟩)) := (World.cell?_of_block (h5.block w.heap.size hxl (by omega) (by omega))).trans y1;
          have q2 : w3.cell? ⟨w.heap.size + 1, 0, none⟩ = some (.string n) := (World.cell?_of_block (h5.block (w.heap.size + 1) hyl (by omega) (by omega))).trans y2)))
    all_goals go_wp2_with fail
    all_goals go_ret
    all_goals rw [HF.out]
    all_goals exact ⟨rfl, h4, ((Tw.below hb3).drew).step h5⟩
  · have HF : Hid (remD D n = (t, D)) := by unfold Hid remD; rw [if_pos (by rw [← ht]; exact h0), ← ht]
    have hq : (t == 0) = false := beq_eq_false_iff_ne.2 h0
    clear ht h0
    have y1 : W.cell? ⟨w.heap.size, 0, none⟩ = some (.pointer (some ⟨g, 0, none⟩)) := by rw [hX3.cell]; rfl
    have y2 : W.cell? ⟨w.heap.size + 1, 0, none⟩ = some (.string n) := by rw [hY3.cell]; rfl
    go_enter Try.func15, Try.ntmps15
    go_wp2_with fail
    rw [← hW]
    refine hT.mono ?_
    rintro e w1 ⟨rfl, hb2, hD1⟩
    go_wp2_with fail
    go_ret
    rw [HF.out]
    exact ⟨rfl, hD1, Tw.below (hb1.trans (hb2.mono hb1.size))⟩
end
end Go.Proofs.Ytogjlfpoedeooaa
