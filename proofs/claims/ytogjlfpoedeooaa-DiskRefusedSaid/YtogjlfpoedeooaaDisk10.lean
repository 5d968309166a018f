/- The walks of the layer 'disk', its eighth part: Append. Conditions: the disk is in good order; names below 2^63. -/
import Derived.Test.YtogjlfpoedeooaaDisk9
namespace Go.Proofs.Ytogjlfpoedeooaa
open Go.RowKit Go.Dol
set_option linter.unusedVariables false
section
variable {w w' : World} {g m : Nat} {D : Dk}
/-- What a name's look-up answers, in one way. -/
theorem Dsk.find1 (h : Dsk w g m D) (hL : InOrder D.l) (n : ByteArray) (hn : n.size ≤ maxLen) :
    ∃ o A c, Hid ((lookF D.l n).getD [] = o) ∧ Far w 0 A o ∧ ∀ W : World, W.heap[m]? = w.heap[m]? → (Instr.lookup 65 (.map (some m)) (.string n) true).run Try.prog W = .ok (.tuple #[.slice A o.length c, .bool (lookF D.l n).isSome]) W := by
  rcases h.find hL n hn with ⟨hl, hf, _⟩ | ⟨b, A, c, hl, hF, hc, hcm, hf, _⟩
  · refine ⟨[], none, 0, Lib.hid (by rw [hl.out]; rfl), Far.nil, fun W hW => ?_⟩
    rw [hf W hW, hl.out]
    rfl
  · refine ⟨b, A, c, Lib.hid (by rw [hl.out]; rfl), hF, fun W hW => ?_⟩
    rw [hf W hW, hl.out]
    rfl

theorem appRoom_calls (h : Dsk w g m D) (hK : OkD D) (n : ByteArray) (hnb : nameB n = true) (B : Nat) (o b : List UInt8) (Ao Ab : Option Addr) (co cb : Nat) (ho : (lookF D.l n).getD [] = o) (hbl : b.length ≤ 64) (more : Int) (hmore : more = appMore D n b) (xo xb xd xn : Nat)
    (ne : xo ≠ m ∧ xb ≠ m ∧ xd ≠ m ∧ xn ≠ m) (ng : xo ≠ g ∧ xb ≠ g ∧ xd ≠ g ∧ xn ≠ g) (hfo : Far w 0 Ao o) (hfb : Far w B Ab b) (hBg : B ≤ g)
    (h2 : w.cell? ⟨xo, 0, none⟩ = some (.slice Ao o.length co)) (h3 : w.cell? ⟨xb, 0, none⟩ = some (.slice Ab b.length cb)) (h4 : w.cell? ⟨xd, 0, none⟩ = some (.pointer (some ⟨g, 0, none⟩))) (h5 : w.cell? ⟨xn, 0, none⟩ = some (.string n)) :
    Calls Try.prog 44 #[.pointer (some ⟨g, 0, none⟩), .int .i64 more, .func (.func 54) #[] #[.pointer (some ⟨xo, 0, none⟩), .pointer (some ⟨xb, 0, none⟩), .pointer (some ⟨xd, 0, none⟩), .pointer (some ⟨xn, 0, none⟩)]] w (RetOp w g m (roomD D more (putF D.l n (o ++ b)))) := by
  unfold roomD
  by_cases hr : 0 < more ∧ frD D < more
  · rw [if_pos hr]
    refine (spend_room h more _ hr.1 hr.2).mono ?_
    rintro e w1 ⟨rfl, rfl⟩
    exact ⟨rfl, h, Tw.refl _ _ _⟩
  · rw [if_neg hr]
    exact appSpend_calls h hK n hnb B o b Ao Ab co cb ho hbl more hmore hr xo xb xd xn ne ng hfo hfb hBg h2 h3 h4 h5

set_option maxRecDepth 100000 in
set_option maxHeartbeats 1600000 in
theorem Append_calls (h : Dsk w g m D) (hK : OkD D) (n : ByteArray) (hn : n.size ≤ maxLen) (B : Nat) (A : Option Addr) (b : List UInt8) (c : Nat) (hfb : Far w B A b) (hBg : B ≤ g) :
    Calls Try.prog 22 #[.pointer (some ⟨g, 0, none⟩), .string n, .slice A b.length c] w (RetOp w g m (appD D n b)) := by
  have hb1 := (Below.refl w.heap.size w).alloc (Nat.le_refl _) (.cells #[.pointer (some ⟨g, 0, none⟩)] 25)
  have hb2 := hb1.alloc hb1.size (.cells #[.string n] 9)
  have hb3 := hb2.alloc hb2.size (.cells #[.slice A b.length c] 23)
  have hX := ((Blk.new w 25 [.pointer (some ⟨g, 0, none⟩)]).alloc (.cells #[.string n] 9)).alloc (.cells #[.slice A b.length c] 23)
  have hY := (Blk.new (w.alloc (.cells #[.pointer (some ⟨g, 0, none⟩)] 25)) 9 [.string n]).alloc (.cells #[.slice A b.length c] 23)
  have hZ := Blk.new ((w.alloc (.cells #[.pointer (some ⟨g, 0, none⟩)] 25)).alloc (.cells #[.string n] 9)) 23 [.slice A b.length c]
  rw [World.size_alloc] at hY
  rw [World.size_alloc, World.size_alloc] at hZ
  obtain ⟨W3, hW3⟩ : ∃ W, W = ((w.alloc (.cells #[.pointer (some ⟨g, 0, none⟩)] 25)).alloc (.cells #[.string n] 9)).alloc (.cells #[.slice A b.length c] 23) := ⟨_, rfl⟩
  have hX3 : Blk W3 w.heap.size 25 [.pointer (some ⟨g, 0, none⟩)] := by rw [hW3]; exact hX
  have hY3 : Blk W3 (w.heap.size + 1) 9 [.string n] := by rw [hW3]; exact hY
  have hZ3 : Blk W3 (w.heap.size + 1 + 1) 23 [.slice A b.length c] := by rw [hW3]; exact hZ
  have hB3 : Below w.heap.size w W3 := by rw [hW3]; exact hb3
  have hs3 : W3.heap.size = w.heap.size + 1 + 1 + 1 := by rw [hW3]; simp
  obtain ⟨hgl, hml⟩ := h.lt
  clear hX hY hZ hb1 hb2 hb3
  by_cases hlen : 64 < b.length
  · have HF : Hid (appD D n b = (1, D)) := if_pos (.inl hlen)
    have d1 : decide ((b.length : Int) > 64) = true := decide_eq_true (by omega)
    have d1' : decide ((64 : Int) < (b.length : Int)) = true := decide_eq_true (by omega)
    have d1n : decide (64 < b.length) = true := decide_eq_true (by omega)
    have hD3 := h.below hB3
    clear hlen
    rw [hW3] at hD3 hB3
    go_enter Try.func22, Try.ntmps22
    go_wp2_with fail
    go_ret
    rw [HF.out]
    exact ⟨rfl, hD3, Tw.below hB3⟩
  · have d1 : decide ((b.length : Int) > 64) = false := decide_eq_false (by omega)
    have d1' : decide ((64 : Int) < (b.length : Int)) = false := decide_eq_false (by omega)
    have d1n : decide (64 < b.length) = false := decide_eq_false (by omega)
    have hlen' : b.length ≤ 64 := by omega
    have hB4 := hB3.alloc hB3.size (.cells #[.string n] 9)
    have hr4 := Rd.new1 W3 9 (.string n)
    obtain ⟨W4, hW4⟩ : ∃ W, W = W3.alloc (.cells #[.string n] 9) := ⟨_, rfl⟩
    have hX4 : Blk W4 w.heap.size 25 [.pointer (some ⟨g, 0, none⟩)] := by rw [hW4]; exact hX3.alloc _
    have hY4 : Blk W4 (w.heap.size + 1) 9 [.string n] := by rw [hW4]; exact hY3.alloc _
    have hZ4 : Blk W4 (w.heap.size + 1 + 1) 23 [.slice A b.length c] := by rw [hW4]; exact hZ3.alloc _
    rw [← hW4] at hB4 hr4
    have hs4 : W4.heap.size = w.heap.size + 1 + 1 + 1 + 1 := by rw [hW4, World.size_alloc, hs3]
    rw [hs3] at hr4
    rw [hW3] at hW4
    have hD4 := h.below hB4
    have hfb4 := hfb.below hB4
    have hR := ready_calls hD4 _ _ [n] 1 1 rfl hr4 (by simp)
    obtain ⟨r, hr⟩ : ∃ r, r = rdD D [n] := ⟨_, rfl⟩
    rw [← hr] at hR
    clear hX3 hY3 hZ3 hr4 hB3 hs3 hW3
    by_cases h0 : r = 0
    · have hz : nameB n = true ∧ D.dark = false := by
        unfold rdD at hr
        rw [h0] at hr
        cases hB : nameB n with
        | false => rw [if_pos (by simp [hB])] at hr; cases hr
        | true =>
          rw [if_neg (by simp [hB])] at hr
          cases hd : D.dark with
          | true => rw [if_pos hd] at hr; cases hr
          | false => exact ⟨rfl, rfl⟩
      obtain ⟨hnb, hdk⟩ := hz
      have hns := nameB_size hnb
      obtain ⟨o, Ao, co, ho, hfo, hlk⟩ := hD4.find1 hK.ord n hn
      have HF : Hid (appD D n b = roomD D (appMore D n b) (putF D.l n (o ++ b))) := by
        unfold Hid appD
        rw [if_neg (by rw [hnb]; simp; omega), if_neg (by rw [hdk]; decide), ho.out]
      rw [h0] at hR
      have HR := Lib.hid hR
      have y1 : W4.cell? ⟨w.heap.size, 0, none⟩ = some (.pointer (some ⟨g, 0, none⟩)) := by rw [hX4.cell]; rfl
      have y2 : W4.cell? ⟨w.heap.size + 1, 0, none⟩ = some (.string n) := by rw [hY4.cell]; rfl
      have y3 : W4.cell? ⟨w.heap.size + 1 + 1, 0, none⟩ = some (.slice A b.length c) := by rw [hZ4.cell]; rfl
      obtain ⟨_, y4, _⟩ := hD4.cells
      have f1 : IntKind.i64.wrap (16 + (n.size : Int)) = 16 + (n.size : Int) := IntWalk.i64_in _ (by omega)
      have f2 : IntKind.i64.wrap ((b.length : Int) + (16 + (n.size : Int))) = (b.length : Int) + (16 + (n.size : Int)) := IntWalk.i64_in _ (by omega)
      clear hR hr h0 hlen
      cases his : (lookF D.l n).isSome with
      | true =>
        have hmore : Hid ((b.length : Int) = appMore D n b) := by
          unfold Hid appMore
          cases hl : lookF D.l n with
          | none => rw [hl] at his; cases his
          | some c => simp
        rw [his] at hlk
        have HLK := Lib.hid hlk
        have hm4 : m < W4.heap.size := by omega
        have hxm : m ≠ W4.heap.size := by omega
        have hA5 : Below W4.heap.size W4 (World.drew (W4.alloc (.cells #[.slice Ao o.length co] 23))) := ((Below.refl W4.heap.size W4).alloc (Nat.le_refl _) _).drew
        have hO5 := (Blk.new W4 23 [.slice Ao o.length co]).drew
        rw [hs4] at hO5
        have c1 : (World.drew (W4.alloc (.cells #[.slice Ao o.length co] 23))).cell? ⟨w.heap.size + 1 + 1 + 1 + 1, 0, none⟩ = some (.slice Ao o.length co) := by
          have := hO5.cell 0
          exact this
        have c2 := (hA5.cell (p := ⟨w.heap.size + 1 + 1, 0, none⟩) hZ4.lt).trans y3
        have c3 := (hA5.cell (p := ⟨w.heap.size, 0, none⟩) hX4.lt).trans y1
        have c4 := (hA5.cell (p := ⟨w.heap.size + 1, 0, none⟩) hY4.lt).trans y2
        have hSp := appRoom_calls (hD4.below hA5) hK n hnb B o b Ao A co c ho.out hlen' (b.length : Int) hmore.out (w.heap.size + 1 + 1 + 1 + 1) (w.heap.size + 1 + 1) w.heap.size (w.heap.size + 1) (by omega) (by omega) (hfo.below hA5) (hfb4.below hA5) hBg c1 c2 c3 c4
        have HSp := Lib.hid hSp
        have hB5 := hB4.trans (hA5.mono hB4.size)
        clear hSp c1 c2 c3 c4 hO5
        clear hlk his
        go_enter Try.func22, Try.ntmps22
        go_wp2_with fail
        rw [← hW4]
        clear hW4
        refine HR.out.mono ?_
        rintro e w1 ⟨rfl, hw1⟩
        obtain rfl := hw1.symm
        go_wp2_with fail
        go_region_held3 (fun w' => w'.cell? ⟨w.heap.size, 0, none⟩ = some (.pointer (some ⟨g, 0, none⟩)) ∧ w'.cell? ⟨w.heap.size + 1, 0, none⟩ = some (.string n) ∧ w'.cell? ⟨g, 1, none⟩ = some (.map (some m)) ∧ (Instr.lookup 65 (.map (some m)) (.string n) true).run Try.prog w' = .ok (.tuple #[.slice Ao o.length co, .bool true]) w')
          ((go_split_ands; refine ⟨by go_keep, by go_keep, by go_keep, ?_⟩; first | exact HLK.out _ rfl | exact HLK.out _ (Below.heap_alloc W4 _ m hm4) | exact HLK.out _ ((Below.heap_setCell _ _ _ m hxm).trans (Below.heap_alloc W4 _ m hm4)))) (fail)
        all_goals go_wp2_with fail
        all_goals have hSp := HSp.out
        all_goals refine hSp.mono ?_
        all_goals rintro e w6 ⟨rfl, h6, t6⟩
        all_goals go_wp2_with fail
        all_goals go_ret
        all_goals rw [HF.out, ← hmore.out]
        all_goals exact ⟨rfl, h6, (Tw.below hB5).step t6⟩
      | false =>
        have hmore : Hid ((b.length : Int) + (16 + (n.size : Int)) = appMore D n b) := by
          unfold Hid appMore
          cases hl : lookF D.l n with
          | none => rfl
          | some c => rw [hl] at his; cases his
        rw [his] at hlk
        have HLK := Lib.hid hlk
        have hm4 : m < W4.heap.size := by omega
        have hxm : m ≠ W4.heap.size := by omega
        have hA5 : Below W4.heap.size W4 (World.drew (W4.alloc (.cells #[.slice Ao o.length co] 23))) := ((Below.refl W4.heap.size W4).alloc (Nat.le_refl _) _).drew
        have hO5 := (Blk.new W4 23 [.slice Ao o.length co]).drew
        rw [hs4] at hO5
        have c1 : (World.drew (W4.alloc (.cells #[.slice Ao o.length co] 23))).cell? ⟨w.heap.size + 1 + 1 + 1 + 1, 0, none⟩ = some (.slice Ao o.length co) := by
          have := hO5.cell 0
          exact this
        have c2 := (hA5.cell (p := ⟨w.heap.size + 1 + 1, 0, none⟩) hZ4.lt).trans y3
        have c3 := (hA5.cell (p := ⟨w.heap.size, 0, none⟩) hX4.lt).trans y1
        have c4 := (hA5.cell (p := ⟨w.heap.size + 1, 0, none⟩) hY4.lt).trans y2
        have hSp := appRoom_calls (hD4.below hA5) hK n hnb B o b Ao A co c ho.out hlen' ((b.length : Int) + (16 + (n.size : Int))) hmore.out (w.heap.size + 1 + 1 + 1 + 1) (w.heap.size + 1 + 1) w.heap.size (w.heap.size + 1) (by omega) (by omega) (hfo.below hA5) (hfb4.below hA5) hBg c1 c2 c3 c4
        have HSp := Lib.hid hSp
        have hB5 := hB4.trans (hA5.mono hB4.size)
        clear hSp c1 c2 c3 c4 hO5
        clear hlk his
        go_enter Try.func22, Try.ntmps22
        go_wp2_with fail
        rw [← hW4]
        clear hW4
        refine HR.out.mono ?_
        rintro e w1 ⟨rfl, hw1⟩
        obtain rfl := hw1.symm
        go_wp2_with fail
        go_region_held3 (fun w' => w'.cell? ⟨w.heap.size, 0, none⟩ = some (.pointer (some ⟨g, 0, none⟩)) ∧ w'.cell? ⟨w.heap.size + 1, 0, none⟩ = some (.string n) ∧ w'.cell? ⟨g, 1, none⟩ = some (.map (some m)) ∧ (Instr.lookup 65 (.map (some m)) (.string n) true).run Try.prog w' = .ok (.tuple #[.slice Ao o.length co, .bool false]) w')
          ((go_split_ands; refine ⟨by go_keep, by go_keep, by go_keep, ?_⟩; first | exact HLK.out _ rfl | exact HLK.out _ (Below.heap_alloc W4 _ m hm4) | exact HLK.out _ ((Below.heap_setCell _ _ _ m hxm).trans (Below.heap_alloc W4 _ m hm4)))) (fail)
        all_goals go_wp2_with fail
        all_goals have hSp := HSp.out
        all_goals refine hSp.mono ?_
        all_goals rintro e w6 ⟨rfl, h6, t6⟩
        all_goals go_wp2_with fail
        all_goals go_ret
        all_goals rw [HF.out, ← hmore.out]
        all_goals exact ⟨rfl, h6, (Tw.below hB5).step t6⟩
    · have HF : Hid (appD D n b = (r, D)) := by
        unfold Hid appD
        unfold rdD at hr
        cases hB : nameB n with
        | false =>
          rw [if_pos (by simp [hB])] at hr
          rw [if_pos (.inr rfl), hr]
        | true =>
          rw [if_neg (by simp [hB])] at hr
          cases hd : D.dark with
          | true =>
            rw [if_pos hd] at hr
            rw [if_neg (by simp; omega), if_pos rfl, hr]
          | false =>
            rw [if_neg (by rw [hd]; decide)] at hr
            exact absurd hr h0
      have hq : (r == 0) = false := beq_eq_false_iff_ne.2 h0
      clear hr h0 hlen
      have HR := Lib.hid hR
      clear hR
      go_enter Try.func22, Try.ntmps22
      go_wp2_with fail
      rw [← hW4]
      clear hW4
      refine HR.out.mono ?_
      rintro e w1 ⟨rfl, hw1⟩
      obtain rfl := hw1.symm
      go_wp2_with fail
      go_ret
      rw [HF.out]
      exact ⟨rfl, hD4, Tw.below hB4⟩
end
end Go.Proofs.Ytogjlfpoedeooaa
