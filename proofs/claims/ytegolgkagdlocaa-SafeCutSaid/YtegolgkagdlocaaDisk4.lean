/- The walks of the library's functions that copy bytes: slices.Clone, slices.Grow (of nil), slices.Concat. Conditions: bytes that are made fit 2^47. -/
import Derived.Test.YtegolgkagdlocaaFar
import Derived.Test.YtegolgkagdlocaaAppV
import Derived.Lib.AppendZerosOnto
namespace Go.Proofs.Ytegolgkagdlocaa
open Go.RowKit Go.Dol
set_option linter.unusedVariables false

set_option maxRecDepth 100000 in
set_option maxHeartbeats 800000 in
theorem Clone_calls (B : Nat) (A : Option Addr) (l : List UInt8) (n c : Nat) (hn : n = l.length) (w : World) (hr : Rd w B 1 A n (bc l)) (hl : n ≤ 140737488355328) :
    Calls Try.prog 48 #[.slice A n c] w (RetB 5 w l) := by
  have hq := eql_nil w A n c
  cases A with
  | none =>
    have h0 := hr.none_zero
    have HL : Hid (l = []) := List.eq_nil_of_length_eq_zero (by omega)
    clear hr hn
    subst h0
    have hq0 : (binOp .eql 23 (.slice none 0 c) (.slice none 0 0)).run Try.prog w = .ok (.bool true) w := hq
    clear hq
    go_enter Try.func48, Try.ntmps48
    go_wp2_with fail
    go_ret
    exact ⟨[], none, 0, HL.out.symm, rfl, World.ownsRow_nil _ _ _ _, Below.refl _ _, Nat.le_refl _, Nat.zero_le _⟩
  | some a =>
    have hq0 : (binOp .eql 23 (.slice (some a) n c) (.slice none 0 0)).run Try.prog w = .ok (.bool false) w := hq
    have hb0 : Below w.heap.size w (w.alloc (.cells #[] 5)) := (Below.refl _ _).alloc (Nat.le_refl _) _
    have ho := own_empty w
    have hr1 := (hr.more (Nat.le_max_left B 0)).more (Nat.le_refl _)
    have hr2 : Rd (w.alloc (.cells #[] 5)) (w.alloc (.cells #[] 5)).heap.size 1 (some a) n (bc l) := by
      refine ⟨hr.len, fun h0 => ?_⟩
      obtain ⟨b, off, e, hb, hcell⟩ := hr.at_ h0
      have h1 := hcell 0 _ (bc_get l 0 (by omega))
      have hlt : b < w.heap.size := by
        rcases Nat.lt_or_ge b w.heap.size with h | h
        · exact h
        · rw [World.cell?, Array.getElem?_eq_none h] at h1
          cases h1
      refine ⟨b, off, e, by simp; omega, fun j u hu => ?_⟩
      rw [World.cell?_alloc_lt _ _ _ hlt]
      exact hcell j u hu
    clear hq hr1 hr hn
    go_enter Try.func48, Try.ntmps48
    go_wp2_with (at_builtin; refine app8 rfl (.tmp 5) (.tmp 6) rfl w.heap.size _ 0 [] rfl ho _ (some a) n c l rfl hr2 (by omega) (by simp) ?_)
    intro l' A' c' w' he ho' hb' hg' _ h1 h2
    go_wp2_with fail
    go_ret
    exact ⟨l', A', c', he, rfl, ho', hb0.trans hb', h1, h2⟩

set_option maxRecDepth 100000 in
set_option maxHeartbeats 800000 in
theorem GrowNil_calls (k : Nat) (w : World) (hk : k ≤ 140737488355328) :
    Calls Try.prog 76 #[.slice none 0 0, .int .i64 (k : Nat)] w fun e w' => ∃ (A : Option Addr) (c : Nat), e = .returned (.slice A 0 c) ∧ w'.ownsRow w.heap.size 5 1 (.slice A 0 c) 0 (bc []) ∧ Below w.heap.size w w' := by
  have d1 : decide ((k : Int) < 0) = false := decide_eq_false (by omega)
  have f1 : IntKind.i64.wrap ((k : Int) - 0) = k := IntWalk.i64_in _ (by omega)
  rcases Nat.eq_zero_or_pos k with h0 | h0
  · have hK := Lib.hid h0
    have d2 : decide ((k : Int) > 0) = false := decide_eq_false (by omega)
    have d2' : decide ((0 : Int) < (k : Int)) = false := decide_eq_false (by omega)
    have d2n : decide (0 < k) = false := decide_eq_false (by omega)
    clear h0
    go_enter Try.func76, Try.ntmps76
    go_wp2_with fail
    go_ret
    exact ⟨none, 0, rfl, World.ownsRow_nil _ _ _ _, Below.refl _ _⟩
  · have d2 : decide ((k : Int) > 0) = true := decide_eq_true (by omega)
    have d2' : decide ((0 : Int) < (k : Int)) = true := decide_eq_true (by omega)
    have d2n : decide (0 < k) = true := decide_eq_true h0
    obtain ⟨i0, hi, hz0, hz1, hz2⟩ := info_parts info_u8
    have hold : (Builtin.firstCells i0.size 0 (.slice none 0 0)).run Try.prog w.drew = .ok (#[] : Array Value) w.drew := by rw [hz1]; simp [Builtin.firstCells]
    have hfit := growslice_fits (need := 0 + k) (old := 0) (by omega) (show (0 + k) * 1 ≤ 140737488355328 by omega)
    have hr := Lib.run_append_grow_zeros (P := Try.prog) (ty := 23) w 23 3 5 i0 _ .i64 .i64 Try.underlying23 Try.underlying3 hi hz0 none 0 0 [] hold k h0 (by omega) (by omega) (by omega) (by rw [hz2]; omega) (by rw [hz2]; exact hfit)
    have hge := grownCap_ge w (0 + k) 0 5
    have hcm : grownCap w (0 + k) 0 5 ≤ maxLen := grownCap_le_maxLen w (0 + k) 0 5 (by unfold maxLen; omega)
    obtain ⟨C, hC⟩ : ∃ C, C = grownCap w (0 + k) 0 5 := ⟨_, rfl⟩
    rw [← hC] at hr hge hcm
    obtain ⟨cs, hcs⟩ : ∃ cs, cs = (([] : List Value).toArray ++ Builtin.zeroCells (Value.int .u8 0).cells k ++ Builtin.zeroCells (Value.int .u8 0).cells (C - (0 + k))) := ⟨_, rfl⟩
    rw [← hcs] at hr
    have hsz : cs.size = C := by rw [hcs]; simp [Builtin.zeroCells, Value.cells]; omega
    have hsl : (Instr.sliceAt 23 (.slice (some ⟨w.heap.size, 0, none⟩) (0 + k) C) none (some (.int .i64 0)) none).run Try.prog (w.drew.alloc (.cells cs 5)) = .ok (.slice (some ⟨w.heap.size, 0, none⟩) 0 C) (w.drew.alloc (.cells cs 5)) := by
      rw [run_sliceAt_slice _ _ _ _ _ _ (by kernel_rfl), run_slice_h _ _ _ _ _ (by kernel_rfl) _ _ (by omega) (by omega), size_u8]
      simp [sliced, Result.andThen, Addr.add]
    clear hC hcs hold hfit
    go_enter Try.func76, Try.ntmps76
    go_wp2_with (at_builtin; refine Lib.wpList_append_run w rfl _ _ _ _ rfl _ _ rfl rfl _ _ hr ?_)
    go_ret
    refine ⟨_, _, rfl, ⟨by simp [bc], .inr ⟨w.heap.size, C, cs, rfl, Nat.le_refl _, ?_, Nat.zero_le _, hcm, by omega, by simp [bc]⟩⟩, ((Below.refl _ _).alloc (Nat.le_refl _) _).drew⟩
    exact heap_alloc_new w _

/-- Slices of bytes that are laid one behind the other. -/
def catc (ls : List (List UInt8 × Option Addr × Nat)) : List Value := ls.map fun x => .slice x.2.1 x.1.length x.2.2
def catL (ls : List (List UInt8 × Option Addr × Nat)) : List UInt8 := ls.flatMap (·.1)
theorem catL_succ {ls : List (List UInt8 × Option Addr × Nat)} {k : Nat} {x : List UInt8 × Option Addr × Nat} (h : ls[k]? = some x) : catL (ls.take (k + 1)) = catL (ls.take k) ++ x.1 := by
  unfold catL
  rw [List.take_add_one, h, List.flatMap_append]
  simp
theorem catL_le (ls : List (List UInt8 × Option Addr × Nat)) (k : Nat) : (catL (ls.take k)).length ≤ (catL ls).length := by
  unfold catL
  conv => rhs; rw [← List.take_append_drop k ls]
  rw [List.flatMap_append, List.length_append]
  omega
def SzRel (ls : List (List UInt8 × Option Addr × Nat)) (w : World) (z i : Value) (wr : World) : Prop := ∃ k s : Nat, z = .int .i64 s ∧ i = .int .i64 k ∧ k ≤ ls.length ∧ Hid (s = (catL (ls.take k)).length) ∧ w = wr
def CatRel (ls : List (List UInt8 × Option Addr × Nat)) (w : World) (z i : Value) (wr : World) : Prop :=
  ∃ (k : Nat) (l1 : List UInt8) (A1 : Option Addr) (c1 : Nat), z = .slice A1 l1.length c1 ∧ i = .int .i64 k ∧ k ≤ ls.length ∧ wr.ownsRow w.heap.size 5 1 (.slice A1 l1.length c1) l1.length (bc l1) ∧ Hid (l1 = catL (ls.take k)) ∧ Below w.heap.size w wr

set_option maxRecDepth 100000 in
set_option maxHeartbeats 1600000 in
theorem Concat_calls (A : Option Addr) (ls : List (List UInt8 × Option Addr × Nat)) (n c : Nat) (hn : n = ls.length) (w : World) (hr : Rd w w.heap.size 1 A n (catc ls)) (hl : (catL ls).length ≤ 140737488355328) (hnl : n ≤ 140737488355328)
    (hR : Hid (∀ x ∈ ls, Rd w w.heap.size 1 x.2.1 x.1.length (bc x.1))) :
    Calls Try.prog 52 #[.slice A n c] w (RetB 5 w (catL ls)) := by
  have HN := Lib.hid hn
  clear hn
  go_enter Try.func52, Try.ntmps52
  go_wp2_with fail
  go_loopw [3, 11] (fun z i wr => SzRel ls w z i wr) (fun _ i _ => n - (intOf i).toNat)
  case atStart => exact ⟨0, 0, rfl, rfl, Nat.zero_le _, Lib.hid rfl, rfl⟩
  case round =>
    obtain ⟨k, s, rfl, rfl, hk, hs, rfl⟩ := hrel
    have hkn : k ≤ n := by rw [HN.out]; exact hk
    have hsl : s ≤ (catL ls).length := by rw [hs.out]; exact catL_le ls k
    by_cases hlt : k < n
    · have hd : decide ((k : Int) < (n : Int)) = true := decide_eq_true (by omega)
      obtain ⟨b, off, rfl, hb, hcell⟩ := hr.at_ (by omega)
      have hlt2 : k < ls.length := by rw [← HN.out]; exact hlt
      obtain ⟨x, hx⟩ : ∃ x, ls[k]? = some x := ⟨ls[k], List.getElem?_eq_getElem hlt2⟩
      obtain ⟨lx, Ax, cx⟩ := x
      have hx1 : (catc ls)[k]? = some (.slice Ax lx.length cx) := by simp [catc, hx]
      have k1 := hcell k _ hx1
      have hsx : s + lx.length ≤ (catL ls).length := by
        have h1 := catL_le ls (k + 1)
        rw [catL_succ hx, List.length_append, ← hs.out] at h1
        exact h1
      have f1 : IntKind.i64.wrap ((s : Int) + (lx.length : Int)) = ((s + lx.length : Nat) : Int) := by rw [IntWalk.i64_in _ (by omega)]; omega
      have d1 : decide (((s + lx.length : Nat) : Int) < 0) = false := decide_eq_false (by omega)
      have HX := Lib.hid hx
      clear hx hx1 hcell hr
      go_wp2_with fail
      refine ⟨⟨k + 1, s + lx.length, rfl, by go_num, by omega, Lib.hid ?_, rfl⟩, by simp [intOf]; omega⟩
      rw [catL_succ HX.out, List.length_append, ← hs.out]
    · have hd : decide ((k : Int) < (n : Int)) = false := decide_eq_false (by omega)
      have hs2 : Hid (s = (catL ls).length) := by
        have h1 := hs.out
        rw [List.take_of_length_le (by rw [← HN.out]; omega)] at h1
        exact h1
      have hs47 : s ≤ 140737488355328 := by omega
      go_wp2_with fail
      refine (GrowNil_calls s _ (by omega)).mono ?_
      rintro e w1 ⟨A1, c1, rfl, ho, hb1⟩
      go_wp2_with fail
      have hw1 := hb1.size
      go_loopw [6, 27] (fun z i wr => CatRel ls w z i wr) (fun _ i _ => n - (intOf i).toNat)
      case atStart => exact ⟨0, [], A1, c1, rfl, rfl, Nat.zero_le _, ho, Lib.hid rfl, hb1⟩
      case round =>
        clear ho hb1
        obtain ⟨k', l1, A2, c2, rfl, rfl, hk', ho, hl1, hbl⟩ := hrel
        have hkn' : k' ≤ n := by rw [HN.out]; exact hk'
        have hs1 := hbl.size
        have hl1l : l1.length ≤ (catL ls).length := by rw [hl1.out]; exact catL_le ls k'
        by_cases hlt : k' < n
        · have hd : decide ((k' : Int) < (n : Int)) = true := decide_eq_true (by omega)
          have hr2 := hr.belowW hbl (Nat.le_refl _)
          obtain ⟨b, off, rfl, hb, hcell⟩ := hr2.at_ (by omega)
          have hlt2 : k' < ls.length := by rw [← HN.out]; exact hlt
          obtain ⟨x, hx⟩ : ∃ x, ls[k']? = some x := ⟨ls[k'], List.getElem?_eq_getElem hlt2⟩
          obtain ⟨lx, Ax, cx⟩ := x
          have hx1 : (catc ls)[k']? = some (.slice Ax lx.length cx) := by simp [catc, hx]
          have k1 := hcell k' _ hx1
          have hrx := (hR.out _ (List.mem_of_getElem? hx)).belowW hbl (Nat.le_refl _)
          have hsx : l1.length + lx.length ≤ (catL ls).length := by
            have h1 := catL_le ls (k' + 1)
            rw [catL_succ hx, List.length_append, ← hl1.out] at h1
            exact h1
          have hsx2 : l1.length + lx.length ≤ 140737488355328 := by omega
          have HX := Lib.hid hx
          clear hx hx1 hcell hr hr2
          go_wp2_with (at_builtin; refine app8 rfl (.tmp 31) (.tmp 32) rfl w.heap.size _ l1.length l1 rfl ho _ Ax lx.length cx lx rfl hrx hsx2 hs1 ?_)
          intro l' A' c' w' he ho' hb' hg' _ h1 h2
          go_wp2_with fail
          refine ⟨⟨k' + 1, l', A', c', rfl, by go_num, by omega, ho', Lib.hid ?_, hbl.trans hb'⟩, by simp [intOf]; omega⟩
          rw [catL_succ HX.out, ← hl1.out]
          exact he.out
        · have hd : decide ((k' : Int) < (n : Int)) = false := decide_eq_false (by omega)
          go_wp2_with fail
          go_ret
          obtain ⟨q1, q2⟩ := own_le ho
          refine ⟨l1, A2, c2, Lib.hid ?_, rfl, ho, hbl, q1, q2⟩
          have h1 := hl1.out
          rw [List.take_of_length_le (by rw [← HN.out]; omega)] at h1
          exact h1
end Go.Proofs.Ytegolgkagdlocaa
