/- The walks of the closures of the program's Bases. Conditions: fewer than 2^39 texts; ids that memory holds. -/
import Derived.Test.YteeajmgiamdfdaaFnL2
namespace Go.Dol
open Go.RowKit
set_option linter.unusedVariables false
/-- Does one lead to another that does not lead back? -/
noncomputable def beatB (l : List Nd) (o x : ByteArray) : Bool := @decide (Rch l [o] x ∧ ¬ Rch l [x] o) (Classical.propDecidable _)
theorem beatB_iff {l : List Nd} {o x : ByteArray} : beatB l o x = true ↔ Rch l [o] x ∧ ¬ Rch l [x] o := by
  unfold beatB
  exact @decide_eq_true_iff _ (Classical.propDecidable _)
theorem beatB_no {l : List Nd} {o x : ByteArray} (h : ¬ (Rch l [o] x ∧ ¬ Rch l [x] o)) : beatB l o x = false := by
  cases e : beatB l o x with
  | false => rfl
  | true => exact absurd (beatB_iff.1 e) h
theorem bestB_any (l : List Nd) (cm : List ByteArray) (x : ByteArray) : bestB l cm x = !(cm.any fun o => beatB l o x) := by
  cases e : bestB l cm x with
  | true =>
    have h := bestB_iff.1 e
    have : (cm.any fun o => beatB l o x) = false := by
      rw [List.any_eq_false]
      intro o ho
      rw [beatB_no (h o ho)]
      simp
    rw [this]
    rfl
  | false =>
    cases e2 : (cm.any fun o => beatB l o x) with
    | true => rfl
    | false =>
      exfalso
      rw [List.any_eq_false] at e2
      have : bestB l cm x = true := bestB_iff.2 fun o ho h => e2 o ho (beatB_iff.2 h)
      rw [this] at e
      cases e
end Go.Dol
namespace Go.Proofs.Yteeajmgiamdfdaa
open Go.RowKit Go.Dol
set_option linter.unusedVariables false
theorem cell_keep {W : World} {a : Addr} {v : Value} (h : W.cell? a = some v) (o : Obj) : (W.alloc o).cell? a = some v := Lib.cell?_alloc_some o h
theorem map_zero (w : World) : (zeroValue 49).run Try.prog w = .ok (.map none) w := by kernel_rfl
theorem mtE_at {mt : List ByteArray} {s : ByteArray} {v : Value} (h : (Value.string s, v) ∈ mtE mt) : v = .int .i64 1 ∧ s ∈ mt := by
  obtain ⟨y, hy, he⟩ := List.mem_map.1 h
  injection he with h1 h2
  injection h1 with h1
  exact ⟨h2.symm, by rw [← h1]; exact hy⟩
theorem mtE_no {mt : List ByteArray} {s : ByteArray} (h : ∀ p ∈ mtE mt, p.1 ≠ Value.string s) : s ∉ mt := fun hm => h (.string s, .int .i64 1) (List.mem_map.2 ⟨s, hm, rfl⟩) rfl
/-- What 'm[id]' of a map of what was met is. -/
theorem mtE_look {w : World} {B : Nat} {mt : List ByteArray} (hM : MapL Try.prog 9 w B (mtE mt)) {s : ByteArray} (hs : s.size ≤ maxLen) :
    (Instr.lookup 49 (.map (some B)) (.string s) false).run Try.prog w = .ok (.int .i64 (if s ∈ mt then 1 else 0)) w := by
  obtain ⟨kl, hkey⟩ := str_key s hs
  rcases hM.look str_law Try.underlying49 (int_zero w) hkey false with ⟨hno, hrun⟩ | ⟨v, hmem, hrun⟩
  · rw [if_neg (mtE_no hno)]
    exact hrun
  · obtain ⟨rfl, hm⟩ := mtE_at hmem
    rw [if_pos hm]
    exact hrun
set_option maxRecDepth 100000 in
set_option maxHeartbeats 800000 in
theorem bases1_calls (yb B : Nat) (mt : List ByteArray) (W : World) (hbox : W.cell? ⟨B, 0, none⟩ = some (.map (some yb))) (hM : MapL Try.prog 9 W yb (mtE mt)) (s : ByteArray) (hs : s.size ≤ maxLen) (val : Value) :
    Calls Try.prog 25 #[.string s, val, .pointer (some ⟨B, 0, none⟩)] W fun e w' => e = .returned (.bool (!decide (s ∈ mt))) ∧ W = w' := by
  have hlook := mtE_look hM hs
  by_cases hm : s ∈ mt
  · rw [if_pos hm] at hlook
    have HM := Lib.hid hm
    clear hm hM
    go_enter Try.func25, Try.ntmps25
    go_wp2_with fail
    go_ret
    exact ⟨by simp [HM.out], rfl⟩
  · rw [if_neg hm] at hlook
    have HM := Lib.hid hm
    clear hm hM
    go_enter Try.func25, Try.ntmps25
    go_wp2_with fail
    go_ret
    exact ⟨by simp [HM.out], rfl⟩
/-- A map that holds, of each of these ids, what is reached from it. -/
def FromOk (L : List Nd) (w : World) (fb : Nat) (ids : List ByteArray) : Prop :=
  ∃ al, MapL Try.prog 9 w fb al ∧ (∀ x ∈ ids, ∃ p ∈ al, p.1 = Value.string x) ∧ ∀ p ∈ al, ∃ (x : ByteArray) (b : Nat) (mt : List ByteArray), p = (.string x, .map (some b)) ∧ fb < b ∧ MapL Try.prog 9 w b (mtE mt) ∧ ∀ y, y ∈ mt ↔ Rch L [x] y
theorem FromOk.belowW {L : List Nd} {w w' : World} {fb : Nat} {ids : List ByteArray} (h : FromOk L w fb ids) (hb : Below w.heap.size w w') : FromOk L w' fb ids := by
  obtain ⟨al, hM, h1, h2⟩ := h
  refine ⟨al, hM.belowW hb, h1, fun p hp => ?_⟩
  obtain ⟨x, b, mt, e, hlt, hm, hy⟩ := h2 p hp
  exact ⟨x, b, mt, e, hlt, hm.belowW hb, hy⟩
theorem FromOk.look {L : List Nd} {w : World} {fb : Nat} {ids : List ByteArray} (h : FromOk L w fb ids) {x : ByteArray} (hx : x ∈ ids) (hs : x.size ≤ maxLen) :
    ∃ b mt, (Instr.lookup 57 (.map (some fb)) (.string x) false).run Try.prog w = .ok (.map (some b)) w ∧ MapL Try.prog 9 w b (mtE mt) ∧ ∀ y, y ∈ mt ↔ Rch L [x] y := by
  obtain ⟨al, hM, h1, h2⟩ := h
  obtain ⟨kl, hkey⟩ := str_key x hs
  rcases hM.look str_law Try.underlying57 (map_zero w) hkey false with ⟨hno, hrun⟩ | ⟨v, hmem, hrun⟩
  · obtain ⟨p, hp, he⟩ := h1 x hx
    exact absurd he (hno p hp)
  · obtain ⟨x', b, mt, e, hlt, hm, hy⟩ := h2 _ hmem
    injection e with e1 e2
    injection e1 with e1
    subst e1
    subst e2
    exact ⟨b, mt, hrun, hm, hy⟩
set_option maxRecDepth 100000 in
set_option maxHeartbeats 1600000 in
theorem bases21_calls (L : List Nd) (fb BF BI : Nat) (ids : List ByteArray) (W : World) (hF : FromOk L W fb ids) (hbF : W.cell? ⟨BF, 0, none⟩ = some (.map (some fb))) (o x : ByteArray) (hbI : W.cell? ⟨BI, 0, none⟩ = some (.string x)) (ho : o ∈ ids) (hx : x ∈ ids) (hos : o.size ≤ maxLen) (hxs : x.size ≤ maxLen) :
    Calls Try.prog 32 #[.string o, .pointer (some ⟨BF, 0, none⟩), .pointer (some ⟨BI, 0, none⟩)] W fun e w' => e = .returned (.bool (beatB L o x)) ∧ W = w' := by
  obtain ⟨b1, m1, l1, hM1, hm1⟩ := hF.look ho hos
  obtain ⟨b2, m2, l2, hM2, hm2⟩ := hF.look hx hxs
  have l3 := mtE_look hM1 hxs
  have l4 := mtE_look hM2 hos
  by_cases h1 : x ∈ m1
  · rw [if_pos h1] at l3
    by_cases h2 : o ∈ m2
    · rw [if_pos h2] at l4
      have HB : Hid (beatB L o x = false) := beatB_no fun h => h.2 ((hm2 o).1 h2)
      clear h1 h2 hm1 hm2 hM1 hM2 hF ho hx
      go_enter Try.func32, Try.ntmps32
      go_wp2_with fail
      go_ret
      exact ⟨by rw [HB.out]; rfl, rfl⟩
    · rw [if_neg h2] at l4
      have HB : Hid (beatB L o x = true) := beatB_iff.2 ⟨(hm1 x).1 h1, fun h => h2 ((hm2 o).2 h)⟩
      clear h1 h2 hm1 hm2 hM1 hM2 hF ho hx
      go_enter Try.func32, Try.ntmps32
      go_wp2_with fail
      go_ret
      exact ⟨by rw [HB.out]; rfl, rfl⟩
  · rw [if_neg h1] at l3
    have HB : Hid (beatB L o x = false) := beatB_no fun h => h1 ((hm1 x).2 h.1)
    clear h1 hm1 hm2 hM1 hM2 hF ho hx l4
    go_enter Try.func32, Try.ntmps32
    go_wp2_with fail
    go_ret
    exact ⟨by rw [HB.out]; rfl, rfl⟩
set_option maxRecDepth 100000 in
set_option maxHeartbeats 1600000 in
theorem bases2_calls (L : List Nd) (fb BF BC : Nat) (A : Option Addr) (cm : List ByteArray) (c : Nat) (W : World) (hF : FromOk L W fb cm) (hbF : W.cell? ⟨BF, 0, none⟩ = some (.map (some fb))) (hbC : W.cell? ⟨BC, 0, none⟩ = some (.slice A cm.length c)) (hr : Rd W W.heap.size 1 A cm.length (pc cm)) (hl : cm.length ≤ 1099511627776)
    (hz : ∀ o ∈ cm, o.size ≤ maxLen) (x : ByteArray) (hx : x ∈ cm) :
    Calls Try.prog 30 #[.string x, .pointer (some ⟨BC, 0, none⟩), .pointer (some ⟨BF, 0, none⟩)] W fun e w' => e = .returned (.bool (cm.any fun o => beatB L o x)) ∧ Below W.heap.size W w' := by
  have hb0 : Below W.heap.size W (W.alloc (.cells #[.string x] 9)) := (Below.refl _ _).alloc (Nat.le_refl _) _
  have hB0 := Blk.new W 9 [.string x]
  obtain ⟨W1, hW1⟩ : ∃ W1, W1 = W.alloc (.cells #[.string x] 9) := ⟨_, rfl⟩
  have hbF1 : W1.cell? ⟨BF, 0, none⟩ = some (.map (some fb)) := by rw [hW1]; exact cell_keep hbF _
  have hbI1 : W1.cell? ⟨W.heap.size, 0, none⟩ = some (.string x) := by rw [hW1]; exact hB0.cell 0
  have hF1 : FromOk L W1 fb cm := by rw [hW1]; exact hF.belowW hb0
  have hr1 : Rd W1 W1.heap.size 1 A cm.length (pc cm) := by rw [hW1]; exact (hr.belowW hb0 (Nat.le_refl _)).more hb0.size
  have eg := enters_of Try.func32 (by kernel_rfl) rfl
  have hS : Says 32 #[.pointer (some ⟨BF, 0, none⟩), .pointer (some ⟨W.heap.size, 0, none⟩)] (fun o => beatB L o x) cm W1 := fun V hV o ho =>
    (bases21_calls L fb BF W.heap.size cm V (hF1.belowW hV) ((hV.cell (p := ⟨BF, 0, none⟩) (World.block_lt_of_cell? W1 _ hbF1)).trans hbF1) o x ((hV.cell (p := ⟨W.heap.size, 0, none⟩) (World.block_lt_of_cell? W1 _ hbI1)).trans hbI1) ho hx (hz o ho) (hz x hx)).mono fun e w' ⟨h1, h2⟩ => ⟨h1, by rw [← h2]; exact Below.refl _ _⟩
  have HC := Lib.hid (containsFunc_calls 32 #[.pointer (some ⟨BF, 0, none⟩), .pointer (some ⟨W.heap.size, 0, none⟩)] _ W1 A cm c W1 (Below.refl _ _) hr1 hl eg hS)
  rw [hW1] at HC
  have hbC1 : (W.alloc (.cells #[.string x] 9)).cell? ⟨BC, 0, none⟩ = some (.slice A cm.length c) := cell_keep hbC _
  clear hW1 hbF1 hbI1 hF1 hr1 hS eg hF hr hbF hbC
  go_enter Try.func30, Try.ntmps30
  go_wp2_with fail
  refine HC.out.mono ?_
  rintro e w2 ⟨rfl, hb2⟩
  go_wp2_with fail
  go_ret
  exact ⟨rfl, hb0.next hb2⟩
end Go.Proofs.Yteeajmgiamdfdaa
