/- The walks of the layer 'object', its fifth part: a body lays its bytes. Conditions: bytes that are made fit 2^47. -/
import Derived.Test.YtcefbhmmijmefaaObj4
import Derived.Test.YtcefbhmmijmefaaRegB
import Derived.Test.YtcefbhmmijmefaaPiece
import Derived.Deep.RegionHeld3
namespace Go.Proofs.Ytcefbhmmijmefaa
open Go.RowKit Go.Dol
set_option linter.unusedVariables false

theorem _root_.Go.Dol.Rd.alive {w w' : World} {A : Option Addr} {n : Nat} {xs : List Value} {size : Nat} (h : Rd w w.heap.size size A n xs) (hb : Below w.heap.size w w') : Rd w' w'.heap.size size A n xs := (h.below hb).more hb.size
/-- append of a text's bytes onto bytes that the call owns, at a step of a region that draws. -/
theorem app8sr {w : World} {ops : Array Oper} {o : Oper} {a : Act} {K : Act → World → Prop} {Q : Exit → Act → World → Prop} {E : Prop} (hgd : o.guard = none) (s x : Operand)
    (ho : o.op = .call { callee := .builtin .append, args := #[s, x], argTypes := #[22, 9] })
    (base : Nat) (v : Value) (n : Nat) (xs : List UInt8) (hs : a.eval s = v) (hown : w.ownsRow base 5 1 v n (bc xs))
    (st : ByteArray) (hx : a.eval x = .string st) (hlen : n + st.size ≤ 140737488355328) (hbase : base ≤ w.heap.size)
    (h : ∀ (l' : List UInt8) (A' : Option Addr) (c' : Nat) (w' : World), Hid (l' = xs ++ st.data.toList) → w'.ownsRow base 5 1 (.slice A' l'.length c') l'.length (bc l') → Below base w w' → w.grownBy w' v.ownBlock →
      l'.length ≤ c' → c' ≤ maxLen → K (a.put o.dst (.slice A' l'.length c')) w') : if Region.wanted o (yielded ops a.tmps) = true then Oper.wp Try.prog o a w K Q else E := by
  have hw : Region.wanted o (yielded ops a.tmps) = true := by simp [Region.wanted, hgd]
  rw [if_pos hw]
  obtain ⟨i0, hi, hz0, hz1, hz2⟩ := info_parts info_u8
  obtain ⟨v', w', hrun, h1, h2, _⟩ := Lib.run_append_own_string (P := Try.prog) w base 22 9 o.type _ i0 Try.underlying22 Try.underlying9 hi hz0 hz1 hz2 v n (bc xs) hown st (by unfold maxLen; omega) hlen hbase
  obtain ⟨A', c', rfl, h4, h5⟩ := own_form h1
  have e1 : n = xs.length := by have := hown.1; rw [bc_length] at this; omega
  have e2 : st.size = st.data.toList.length := by rw [Array.length_toList]; rfl
  have e : n + st.size = (xs ++ st.data.toList).length := by rw [List.length_append]; omega
  have e3 : bc xs ++ Lib.strCells st = bc (xs ++ st.data.toList) := by rw [bc_append]; rfl
  rw [e3, e] at h1
  rw [e] at h4 hrun
  unfold Oper.wp execOp
  simp only [ho, resolve, invoke, builtin, Sem.run_bind, Sem.run_pure, Result.andThen_ok, List.map_toArray, List.map_cons, List.map_nil, hs, hx, hrun]
  exact h _ A' c' w' rfl h1 ((Below.refl _ _).grown h2 hbase (fun k hk => (hown.lt k hk).1)) h2 h4 h5

/-- Bytes of the call's own that are handed back. -/
def RetO (base : Nat) (w : World) (l : List UInt8) (e : Ending) (w' : World) : Prop :=
  ∃ (l' : List UInt8) (A : Option Addr) (c : Nat), Hid (l' = l) ∧ e = .returned (.slice A l'.length c) ∧ w'.ownsRow base 5 1 (.slice A l'.length c) l'.length (bc l') ∧ Below base w w' ∧ l'.length ≤ c ∧ c ≤ maxLen

theorem tx_length {s : ByteArray} (h : s.size ≤ 140737488355328) : (tx s).length ≤ 9 + s.size := by
  unfold tx text
  rw [List.length_append, str_len]
  have := num_length_le 8 s.size (by omega)
  omega
theorem told_cells {w : World} {g : Nat} {who text : ByteArray} {stamp : Int} (h : Blk w g 98 [.string who, .int .i64 stamp, .string text]) : w.cell? ⟨g, 0, none⟩ = some (.string who) ∧ w.cell? ⟨g, 1, none⟩ = some (.int .i64 stamp) ∧ w.cell? ⟨g, 2, none⟩ = some (.string text) :=
  ⟨by rw [h.cell]; rfl, by rw [h.cell]; rfl, by rw [h.cell]; rfl⟩

set_option maxRecDepth 100000 in
set_option maxHeartbeats 4000000 in
theorem toldLay_calls (who : ByteArray) (stamp : Int) (text : ByteArray) (A : Option Addr) (l : List UInt8) (c : Nat) (w : World) (hr : Rd w w.heap.size 1 A l.length (bc l)) (hl : l.length + 1000 + who.size + text.size ≤ 140737488355328) :
    Calls Try.prog 112 #[.agg #[.string who, .int .i64 stamp, .string text], .slice A l.length c] w (RetO w.heap.size w (l ++ (tx who ++ (num (clampN stamp) ++ tx text)))) := by
  have hB := Blk.new w 98 [.string who, .int .i64 stamp, .string text]
  have hb0 : Below w.heap.size w (w.alloc (.cells #[.string who, .int .i64 stamp, .string text] 98)) := (Below.refl _ _).alloc (Nat.le_refl _) _
  have hr0 := hr.alive hb0
  go_enter Try.func112, Try.ntmps112
  go_wp2_with fail
  obtain ⟨g, hg⟩ : ∃ g, g = w.heap.size := ⟨_, rfl⟩
  obtain ⟨w0, hw0⟩ : ∃ w0, w0 = w.alloc (.cells #[.string who, .int .i64 stamp, .string text] 98) := ⟨_, rfl⟩
  change Blk (w.alloc (.cells #[.string who, .int .i64 stamp, .string text] 98)) _ _ _ at hB
  rw [← hw0] at hB hb0 hr0 ⊢
  rw [← hg] at hB ⊢
  have HG := Lib.hid hg
  clear hw0 hg hr
  obtain ⟨c0, c1, c2⟩ := told_cells hB
  have hgl := hB.lt
  have hr0d := hr0.drew
  have hq1 : l.length + 9 + who.size ≤ 140737488355328 := by omega
  go_region_held3 (fun w' => w'.cell? ⟨g, 0, none⟩ = some (.string who) ∧ w'.cell? ⟨g, 1, none⟩ = some (.int .i64 stamp) ∧ w'.cell? ⟨g, 2, none⟩ = some (.string text)) (first | exact told_cells (hB.below hb3 hgl) | exact told_cells (hB.below hb2 hgl) | exact told_cells (hB.below hb1 hgl) | go_keep)
    ((first
      | (go_at_call 18; first | (with_reducible refine (PutText_calls A l c who _ hr0 hq1).mono ?_) | (with_reducible refine (PutText_calls A l c who _ hr0d hq1).mono ?_); rintro e w1 ⟨l1, A1, c1', e1, rfl, ho1, hb1', i1, i2⟩; have hb1 : Below w0.heap.size w0 w1 := (by first | exact hb1' | exact (Below.refl w0.heap.size w0).drew.trans hb1'); have hl1 : l1.length ≤ l.length + 9 + who.size := (by rw [e1.out, List.length_append]; have := tx_length (s := who) (by omega); unfold tx at this; omega))
      | (go_at_call 16; have hq2 : l1.length + 9 ≤ 140737488355328 := (by omega); have hro1 := Rd.of_own ho1; (with_reducible refine (PutNum_calls A1 l1 c1' _ w1 hro1 hq2).mono ?_); rintro e w2 ⟨l2, A2, c2', e2, rfl, ho2, hb2', i3, i4⟩; have hb2 : Below w0.heap.size w0 w2 := hb1.next hb2'; have hl2 : l2.length ≤ l.length + 18 + who.size := (by rw [e2.out, List.length_append]; have := num_length_le 8 (clampN stamp) (by have := clampN_le stamp; unfold mostNum at this; omega); omega))
      | (go_at_call 18; have hq3 : l2.length + 9 + text.size ≤ 140737488355328 := (by omega); have hro2 := Rd.of_own ho2; (with_reducible refine (PutText_calls A2 l2 c2' text w2 hro2 hq3).mono ?_); rintro e w3 ⟨l3, A3, c3', e3, rfl, ho3, hb3', i5, i6⟩; have hb3 : Below w0.heap.size w0 w3 := hb2.next hb3')))
  have hl3 : Hid (l3 = l ++ (tx who ++ (num (clampN stamp) ++ tx text))) := by
    unfold Hid
    rw [e3.out, e2.out, e1.out]
    unfold tx
    simp only [List.append_assoc]
  have hbw : Below w.heap.size w w3 := hb0.next hb3
  have hz : w.heap.size ≤ w2.heap.size := (hb0.next hb2).size
  clear e1 e2 e3 ho1 ho2 hb1 hb1' hb2 hb2' hb3 hb3'
  go_wp2_with fail
  go_ret
  exact ⟨l3, A3, c3', hl3, rfl, ho3.base (by have := HG.out; omega), by first | exact hbw | (rw [HG.out]; exact hbw), i5, i6⟩

set_option maxRecDepth 100000 in
set_option maxHeartbeats 800000 in
theorem blobLay_calls (base : Nat) (A2 : Option Addr) (d : List UInt8) (c2 : Nat) (A : Option Addr) (l : List UInt8) (c : Nat) (w : World) (hown : w.ownsRow base 5 1 (.slice A l.length c) l.length (bc l)) (hr2 : Rd w w.heap.size 1 A2 d.length (bc d))
    (hl : l.length + d.length ≤ 140737488355328) (hbase : base ≤ w.heap.size) :
    Calls Try.prog 105 #[.agg #[.slice A2 d.length c2], .slice A l.length c] w (RetO base w (l ++ d)) := by
  have hb0 : Below base w (w.alloc (.cells #[.slice A2 d.length c2] 94)) := (Below.refl _ _).alloc hbase _
  have hown0 := hown.alloc (.cells #[.slice A2 d.length c2] 94)
  have hr0 := hr2.alloc (Nat.le_refl _) (.cells #[.slice A2 d.length c2] 94)
  go_enter Try.func105, Try.ntmps105
  go_wp2_with (at_builtin; refine app8 rfl (.tmp 5) (.tmp 7) rfl base _ l.length l rfl hown0 w.heap.size A2 d.length c2 d rfl hr0 hl (Nat.le_trans hbase hb0.size) ?_)
  intro l3 A3 c3 w3 e3 ho3 hb3 _ _ i3 i4
  go_wp2_with fail
  go_ret
  exact ⟨l3, A3, c3, e3, rfl, ho3, hb0.trans hb3, i3, i4⟩

theorem tag_cells {w : World} {g : Nat} {ta na who text : ByteArray} {stamp : Int} (h : Blk w g 102 [.string ta, .string na, .string who, .int .i64 stamp, .string text]) : w.cell? ⟨g, 0, none⟩ = some (.string ta) ∧ w.cell? ⟨g, 1, none⟩ = some (.string na) ∧ w.cell? ⟨g, 2, none⟩ = some (.string who) ∧ w.cell? ⟨g, 3, none⟩ = some (.int .i64 stamp) ∧ w.cell? ⟨g, 4, none⟩ = some (.string text) :=
  ⟨by rw [h.cell]; rfl, by rw [h.cell]; rfl, by rw [h.cell]; rfl, by rw [h.cell]; rfl, by rw [h.cell]; rfl⟩

set_option maxRecDepth 100000 in
set_option maxHeartbeats 4000000 in
theorem tagLay_calls (base : Nat) (ta na who : ByteArray) (stamp : Int) (text : ByteArray) (A : Option Addr) (l : List UInt8) (c : Nat) (w : World) (hown : w.ownsRow base 5 1 (.slice A l.length c) l.length (bc l))
    (hl : l.length + ta.size + na.size + 2000 + who.size + text.size ≤ 140737488355328) (hbase : base ≤ w.heap.size) :
    Calls Try.prog 117 #[.agg #[.string ta, .string na, .string who, .int .i64 stamp, .string text], .slice A l.length c] w (RetO base w (l ++ (ta.data.toList ++ (tx na ++ (tx who ++ (num (clampN stamp) ++ tx text)))))) := by
  have hB := Blk.new w 102 [.string ta, .string na, .string who, .int .i64 stamp, .string text]
  have hb0 : Below base w (w.alloc (.cells #[.string ta, .string na, .string who, .int .i64 stamp, .string text] 102)) := (Below.refl _ _).alloc hbase _
  have hown0 := hown.alloc (.cells #[.string ta, .string na, .string who, .int .i64 stamp, .string text] 102)
  go_enter Try.func117, Try.ntmps117
  go_wp2_with fail
  obtain ⟨g, hg⟩ : ∃ g, g = w.heap.size := ⟨_, rfl⟩
  obtain ⟨w0, hw0⟩ : ∃ w0, w0 = w.alloc (.cells #[.string ta, .string na, .string who, .int .i64 stamp, .string text] 102) := ⟨_, rfl⟩
  change Blk (w.alloc (.cells #[.string ta, .string na, .string who, .int .i64 stamp, .string text] 102)) _ _ _ at hB
  rw [← hw0] at hB hb0 hown0 ⊢
  rw [← hg] at hB ⊢
  have HG := Lib.hid hg
  clear hw0 hg hown
  obtain ⟨c0, c1, c2, c3, c4⟩ := tag_cells hB
  have hgl := hB.lt
  have hne : some g ≠ (Value.slice A l.length c).ownBlock := fun e => own_ne hown0 hB (by decide) e.symm
  have hown0d : w0.drew.ownsRow base 5 1 (.slice A l.length c) l.length (bc l) := hown0
  have hq0 : l.length + ta.size ≤ 140737488355328 := by omega
  have hz0 : base ≤ w0.heap.size := hb0.size |> Nat.le_trans hbase
  go_region_held3 (fun w' => w'.cell? ⟨g, 0, none⟩ = some (.string ta) ∧ w'.cell? ⟨g, 1, none⟩ = some (.string na) ∧ w'.cell? ⟨g, 2, none⟩ = some (.string who) ∧ w'.cell? ⟨g, 3, none⟩ = some (.int .i64 stamp) ∧ w'.cell? ⟨g, 4, none⟩ = some (.string text)) (first | exact tag_cells (hB1.below hb3 hgl1) | exact tag_cells (hB1.below hb2 hgl1) | exact tag_cells hB1 | go_keep)
    ((first
      | (refine app8sr (by rfl) (.tmp 7) (.tmp 9) (by rfl) base _ l.length l (by rfl) (w := World.drew w0) hown0d ta (by rfl) hq0 hz0 ?_; intro l1 A1 c1' w1 e1 ho1 hb1 hg1 i1 i2; have hB1 := hB.drew.grown hg1 hne; have hgl1 := hB1.lt; have hl1 : l1.length ≤ l.length + ta.size := (by rw [e1.out, List.length_append, str_len]; omega); have hro1 := Rd.of_own ho1; have hq1 : l1.length + 9 + na.size ≤ 140737488355328 := (by omega))
      | (go_at_call 18; (with_reducible refine (PutText_calls A1 l1 c1' na w1 hro1 hq1).mono ?_); rintro e w2 ⟨l2, A2, c2', e2, rfl, ho2, hb2, i3, i4⟩; have hl2 : l2.length ≤ l1.length + 9 + na.size := (by rw [e2.out, List.length_append]; have := tx_length (s := na) (by omega); unfold tx at this; omega); have hro2 := Rd.of_own ho2; have hq2 : l2.length + 1000 + who.size + text.size ≤ 140737488355328 := (by omega))
      | (go_at_call 112; (with_reducible refine (toldLay_calls who stamp text A2 l2 c2' w2 hro2 hq2).mono ?_); rintro e w3 ⟨l3, A3, c3', e3, rfl, ho3, hb3', i5, i6⟩; have hb3 : Below w1.heap.size w1 w3 := hb2.next hb3')))
  have hl3 : Hid (l3 = l ++ (ta.data.toList ++ (tx na ++ (tx who ++ (num (clampN stamp) ++ tx text))))) := by
    unfold Hid
    rw [e3.out, e2.out, e1.out]
    unfold tx
    simp only [List.append_assoc]
  have hz1 : base ≤ w1.heap.size := Nat.le_trans hz0 hb1.size
  have hbw : Below base w w3 := hb0.trans ((Below.refl base w0).drew.trans (hb1.trans (hb3.mono hz1)))
  have hz2 : base ≤ w2.heap.size := Nat.le_trans hz1 hb2.size
  clear e1 e2 e3 ho1 ho2 hb1 hb2 hb3 hb3' hro1 hro2 hB hB1 hown0 hown0d
  go_wp2_with fail
  go_ret
  exact ⟨l3, A3, c3', hl3, rfl, ho3.base hz2, hbw, i5, i6⟩
end Go.Proofs.Ytcefbhmmijmefaa
