/- A pack that was never made: a nil pointer, and one of zeros: it has no parts. Conditions: none. -/
import Derived.Test.YtnaakfnbmeimaaaGreatPckIds
namespace Go.Proofs.YtnaakfnbmeimaaaGreat
open Go.RowKit Go.Dol
set_option linter.unusedVariables false
theorem sortedZ_calls (w : World) : Calls Tryz.prog 51 #[.func (.func 88) #[] #[.pointer (some ⟨w.heap.size, 0, none⟩)]] (w.alloc (.cells #[.map none] 52)) fun e w' => ∃ A c, e = .returned (.slice A 0 c) ∧ w'.ownsRow w.heap.size 9 1 (.slice A 0 c) 0 [] ∧ Below w.heap.size w w' := by
  refine ((callsIn_wide (n := 5)).1 (sortedKeysNil w)).mono ?_
  rintro e w' ⟨v, ss, rfl, rfl, hrow, _, hb⟩
  have hbl : Below w.heap.size w w' := ((Below.refl _ _).alloc (Nat.le_refl _) _).trans (hb.mono (by simp))
  simp only [List.mergeSort_nil, List.map_nil, List.length_nil] at hrow
  have hrow' : w'.ownsRow w.heap.size 9 1 v 0 [] := World.ownsRow.mono hrow (by simp)
  have hv : ∃ A c, v = .slice A 0 c := by
    rcases hrow'.2 with ⟨rfl, h0⟩ | ⟨q, cap, cur, rfl, _⟩
    · exact ⟨none, 0, rfl⟩
    · exact ⟨_, cap, rfl⟩
  obtain ⟨A, c, rfl⟩ := hv
  exact ⟨A, c, rfl, hrow', hbl⟩
/-- A pack of zeros; its ids may have been asked for. -/
def PckZ (w : World) (g : Nat) (d : Int) (vi : Value) : Prop := Blk w g 66 [.slice none 0 0, .map none, .int .u32 d, .int .i32 0, .int .u32 0, vi]
theorem lookZ (s : ByteArray) (hs : s.size ≤ maxLen) (w : World) : (Instr.lookup 52 (.map none) (.string s) true).run Tryz.prog w = .ok (.tuple #[.slice none 0 0, .bool false]) w := by
  have hkey := WideMaps.keyOf_string_mk Tryz.underlying9 hs
  rcases keyed_str.find w hkey [] (fun e he => (List.not_mem_nil he).elim) with ⟨h1, _⟩ | ⟨j, e0, h1, h2, h3⟩
  · simp [Instr.lookup, run_underlying Tryz.underlying52, keyed_str.check w _ hkey, h1, zeroS8 w, Result.andThen]
  · simp at h2
section
variable {w w' : World} {g : Nat} {l : List PtA} {d : Int} {vi : Value}
set_option maxRecDepth 100000 in
set_option maxHeartbeats 1600000 in
/-- The function that a Once calls for Ids. -/
theorem idsOnceZ (h : PckZ w g 0 (.slice none 0 0)) (pl : Addr) (hp : w.cell? pl = some (.pointer (some ⟨g, 0, none⟩))) (hpg : pl.block ≠ g) (hpw : pl.block < w.heap.size) :
    OnceRun 50 pl g 2 66 [.slice none 0 0, .map none, .int .u32 0, .int .i32 0, .int .u32 0, .slice none 0 0]
      (fun cs' w1 w2 => ∃ Ai ci, cs' = [.slice none 0 0, .map none, .int .u32 0, .int .i32 1, .int .u32 0, .slice Ai 0 ci] ∧ w2.ownsRow w1.heap.size 9 1 (.slice Ai 0 ci) 0 []) w := by
  intro w1 hB hg hs
  have hB : Blk w1 g 66 [.slice none 0 0, .map none, .int .u32 0, .int .i32 1, .int .u32 0, .slice none 0 0] := hB
  have hp1 : w1.cell? pl = some (.pointer (some ⟨g, 0, none⟩)) := (World.cell?_of_block (hg.block pl.block hpw (fun e => hpg (by injection e)))).trans hp
  have hgl := hB.lt
  have k1 : w1.cell? ⟨g, 1, none⟩ = some (.map none) := by rw [hB.cell]; rfl
  have hplw : pl.block < w1.heap.size := by omega
  have HK := Lib.hid (fun mb W => keysP_calls mb W)
  have hsx : Calls Tryz.prog 51 #[.func (.func 88) #[] #[.pointer (some ⟨w1.heap.size, 0, none⟩)]] (w1.alloc (.cells #[.map none] 52)).drew (fun e w' => ∃ A c, e = .returned (.slice A 0 c) ∧ w'.ownsRow w1.heap.size 9 1 (.slice A 0 c) 0 [] ∧ Below w1.drew.heap.size w1.drew w') := sortedZ_calls w1.drew
  have HS := Lib.hid hsx
  clear hsx hs
  go_enter Tryz.func50, Tryz.ntmps50
  go_upto_region 0 with (fail)
  refine wp_region_held_drew (S := fun W => W.cell? pl = some (.pointer (some ⟨g, 0, none⟩)) ∧ W.cell? ⟨g, 1, none⟩ = some (.map none)) (by kernel_rfl) (⟨hp1, k1⟩) (fun hHeld => ?_)
  refine wpAnyH_take (i := 0) (oi := _) (v := .pointer (some ⟨g, 0, none⟩)) rfl (by kernel_rfl) (by kernel_rfl) (by kernel_rfl) (fun _ _ _ h => h) (Or.inl ⟨by rfl, fun w9 hS => ?_⟩) hHeld ?_
  · obtain ⟨s0, s1⟩ := hS
    go_simp
  try simp only [Act.put, List.setIfInBounds_toArray, List.set_cons_zero, List.set_cons_succ, List.getElem_toArray, List.getElem_cons_zero]
  refine wpAnyH_take (i := 1) (oi := _) (v := .pointer (some ⟨g, 0, none⟩)) rfl (by kernel_rfl) (by kernel_rfl) (by kernel_rfl) (fun _ _ _ h => h) (Or.inl ⟨by rfl, fun w9 hS => ?_⟩) hHeld ?_
  · obtain ⟨s0, s1⟩ := hS
    go_simp
  try simp only [Act.put, List.setIfInBounds_toArray, List.set_cons_zero, List.set_cons_succ, List.getElem_toArray, List.getElem_cons_succ, List.getElem_cons_zero]
  refine wpAnyH_take (i := 2) (oi := _) (v := .pointer (some ⟨g, 0, none⟩)) rfl (by kernel_rfl) (by kernel_rfl) (by kernel_rfl) (fun _ _ _ h => h) (Or.inl ⟨by rfl, fun w9 hS => ?_⟩) hHeld ?_
  · obtain ⟨s0, s1⟩ := hS
    go_simp
  try simp only [Act.put, List.setIfInBounds_toArray, List.set_cons_zero, List.set_cons_succ, List.getElem_toArray, List.getElem_cons_succ, List.getElem_cons_zero]
  refine wpAnyH_take (i := 3) (oi := _) (v := .pointer (some ⟨g, 1, none⟩)) rfl (by kernel_rfl) (by kernel_rfl) (by kernel_rfl) (fun _ _ _ h => h) (Or.inl ⟨by rfl, fun w9 hS => ?_⟩) hHeld ?_
  · obtain ⟨s0, s1⟩ := hS
    go_simp
  try simp only [Act.put, List.setIfInBounds_toArray, List.set_cons_zero, List.set_cons_succ, List.getElem_toArray, List.getElem_cons_succ, List.getElem_cons_zero]
  refine wpAnyH_take (i := 4) (oi := _) (v := .map none) rfl (by kernel_rfl) (by kernel_rfl) (by kernel_rfl) (fun _ _ _ h => h) (Or.inl ⟨by rfl, fun w9 hS => ?_⟩) hHeld ?_
  · obtain ⟨s0, s1⟩ := hS
    go_simp
  try simp only [Act.put, List.setIfInBounds_toArray, List.set_cons_zero, List.set_cons_succ, List.getElem_toArray, List.getElem_cons_succ, List.getElem_cons_zero]
  refine wpAnyH_ready (rs := [5]) (by kernel_rfl) (by simp) (AllReadyH.cons (o := _) rfl (fun K hK => ?_) AllReadyH.nil)
  go_simp
  refine (HK.out none _).mono ?_
  rintro e w2 ⟨rfl, hw2⟩
  refine hK.out _ _ (by rw [hw2]; exact ⟨(World.cell?_alloc_lt _ _ _ hplw).trans hp1, (World.cell?_alloc_lt _ _ _ hgl).trans k1⟩) (fun hHeld => ?_)
  clear hK K
  try simp only [Act.put, List.setIfInBounds_toArray, List.set_cons_zero, List.set_cons_succ, List.getElem_toArray, List.getElem_cons_succ, List.getElem_cons_zero]
  subst hw2
  refine wpAnyH_ready (rs := [6]) (by kernel_rfl) (by simp) (AllReadyH.cons (o := _) rfl (fun K hK => ?_) AllReadyH.nil)
  go_simp
  refine (HS.out).mono ?_
  rintro e w3 ⟨Ai, ci, rfl, ho3, hb3⟩
  have hb3 : Below w1.heap.size w1 w3 := ⟨hb3.os, hb3.tape, hb3.output, hb3.size, hb3.block⟩
  have ho3 : w3.ownsRow w1.heap.size 9 1 (.slice Ai 0 ci) 0 [] := ho3
  have hB3 := hB.below hb3 hgl
  have k5 : w3.cell? ⟨g, 5, none⟩ = some (.slice none 0 0) := by rw [hB3.cell]; rfl
  have f5 := hB3.free 5
  refine hK.out _ _ ⟨(hb3.cell (p := pl) hplw).trans hp1, by rw [hB3.cell]; rfl⟩ (fun hHeld => ?_)
  clear hK K
  try simp only [Act.put, List.setIfInBounds_toArray, List.set_cons_zero, List.set_cons_succ, List.getElem_toArray, List.getElem_cons_succ, List.getElem_cons_zero]
  refine wpAnyH_take (i := 7) (oi := _) (v := .pointer (some ⟨g, 0, none⟩)) rfl (by kernel_rfl) (by kernel_rfl) (by kernel_rfl) (fun _ _ _ h => h) (Or.inl ⟨by rfl, fun w9 hS => ?_⟩) hHeld ?_
  · obtain ⟨s0, s1⟩ := hS
    go_simp
  try simp only [Act.put, List.setIfInBounds_toArray, List.set_cons_zero, List.set_cons_succ, List.getElem_toArray, List.getElem_cons_succ, List.getElem_cons_zero]
  refine wpAnyH_take (i := 8) (oi := _) (v := .pointer (some ⟨g, 5, none⟩)) rfl (by kernel_rfl) (by kernel_rfl) (by kernel_rfl) (fun _ _ _ h => h) (Or.inl ⟨by rfl, fun w9 hS => ?_⟩) hHeld ?_
  · obtain ⟨s0, s1⟩ := hS
    go_simp
  try simp only [Act.put, List.setIfInBounds_toArray, List.set_cons_zero, List.set_cons_succ, List.getElem_toArray, List.getElem_cons_succ, List.getElem_cons_zero]
  have hB4 := hB3.set 5 (.slice Ai 0 ci)
  have s0 : (w3.setCell ⟨g, 5, none⟩ (.slice Ai 0 ci)).cell? pl = some (.pointer (some ⟨g, 0, none⟩)) := (World.cell?_setCell_other w3 ⟨g, 5, none⟩ pl _ (fun e => hpg (by rw [← e]))).trans ((hb3.cell (p := pl) hplw).trans hp1)
  have s1 : (w3.setCell ⟨g, 5, none⟩ (.slice Ai 0 ci)).cell? ⟨g, 1, none⟩ = some (.map none) := by rw [hB4.cell]; rfl
  refine wpAnyH_ready (rs := [9]) (by kernel_rfl) (by simp) (AllReadyH.cons (o := _) rfl (fun K hK => ?_) AllReadyH.nil)
  go_simp
  refine hK.out _ _ ⟨s0, s1⟩ (fun hHeld => ?_)
  clear hK K
  try simp only [Act.put, List.setIfInBounds_toArray, List.set_cons_zero, List.set_cons_succ, List.getElem_toArray, List.getElem_cons_succ, List.getElem_cons_zero]
  refine wpAnyH_done (by kernel_rfl) ?_ _
  go_end0
  exact ⟨rfl, _, hB4, rfl, rfl, grown_setCell (grown_of_below hb3 (some g)) 5 _, Ai, ci, rfl, own_grown ho3 (grown_setCell (World.grownBy.refl _ _) 5 _) hgl⟩
set_option maxRecDepth 100000 in
set_option maxHeartbeats 1600000 in
theorem IdsZ_calls (h : PckZ w g 0 (.slice none 0 0)) : Calls Tryz.prog 22 #[.pointer (some ⟨g, 0, none⟩)] w fun e w' => (∃ A c, e = .returned (.slice A 0 c)) ∧ w.grownBy w' (some g) := by
  have hmf : ∀ (fn : Fn) (first cap : Array Value) (w : World), (Instr.makeFunc fn first cap).run Tryz.prog w = .ok (.func fn first cap) w := fun _ _ _ _ => rfl
  obtain ⟨v1, hv1⟩ : ∃ v1, v1 = w.alloc (.cells #[.pointer (some ⟨g, 0, none⟩)] 32) := ⟨_, rfl⟩
  have hb1 : Below w.heap.size w v1 := by rw [hv1]; exact (Below.refl _ _).alloc (Nat.le_refl _) _
  have hP : Blk v1 w.heap.size 32 [.pointer (some ⟨g, 0, none⟩)] := by rw [hv1]; exact Blk.new w _ _
  have hgl := Blk.lt h
  have h1 : PckZ v1 g 0 (.slice none 0 0) := Blk.below h hb1 hgl
  have hp1 : v1.cell? ⟨w.heap.size, 0, none⟩ = some (.pointer (some ⟨g, 0, none⟩)) := by rw [hP.cell]; rfl
  have hs1 : v1.heap.size = w.heap.size + 1 := by rw [hv1]; simp
  have HD := Lib.hid (do_first g 2 66 _ ⟨w.heap.size, 0, none⟩ _ v1 h1 rfl rfl (idsOnceZ h1 ⟨w.heap.size, 0, none⟩ hp1 (by show w.heap.size ≠ g; omega) (by show w.heap.size < v1.heap.size; omega)))
  go_enter Tryz.func22, Tryz.ntmps22
  go_wp2_with fail
  rw [← hv1]
  refine HD.out.mono ?_
  rintro e w4 ⟨rfl, cs', u1, u2, ⟨Ai, ci, rfl, ho⟩, hg1, hg2, hB2, hw4⟩
  have hg24 : u2.grownBy w4 (some g) := by rw [hw4]; exact grown_setCell (grown_setCell (grown_drew (World.grownBy.refl _ _)) 2 _) 3 _
  have hB4 : Blk w4 g 66 [.slice none 0 0, .map none, .int .u32 1, .int .i32 0, .int .u32 0, .slice Ai 0 ci] := by rw [hw4]; exact (hB2.drew.set 2 _).set 3 _
  have hg4 := grown_step (grown_step hg1 hg2) hg24
  have hp4 : w4.cell? ⟨w.heap.size, 0, none⟩ = some (.pointer (some ⟨g, 0, none⟩)) := (World.cell?_of_block (hg4.block w.heap.size (by omega) (fun e => by injection e; omega))).trans hp1
  have k5 : w4.cell? ⟨g, 5, none⟩ = some (.slice Ai 0 ci) := by rw [hB4.cell]; rfl
  have HC := Lib.hid (cloneI_calls Ai 0 [] ci w4 rfl Rd.nil (by omega))
  have hg04 : w.grownBy w4 (some g) := grown_step (grown_of_below hb1 (some g)) hg4
  clear hw4 hB2 hg24 hg1 hg2 HD
  go_wp2_with fail
  refine HC.out.mono ?_
  rintro e w5 ⟨A5, c5, rfl, ho5, hb5⟩
  go_wp2_with fail
  go_ret
  exact ⟨⟨A5, c5, rfl⟩, grown_below hg04 hb5⟩
set_option maxRecDepth 100000 in
set_option maxHeartbeats 800000 in
theorem IdsN_calls (w : World) : Calls Tryz.prog 22 #[.pointer none] w fun e w' => (∃ A c, e = .returned (.slice A 0 c)) ∧ Below w.heap.size w w' := by
  have hb0 : Below w.heap.size w (w.alloc (.cells #[.pointer none] 32)) := (Below.refl _ _).alloc (Nat.le_refl _) _
  go_enter Tryz.func22, Tryz.ntmps22
  go_wp2_with fail
  go_ret
  exact ⟨⟨none, 0, rfl⟩, hb0⟩
set_option maxRecDepth 100000 in
set_option maxHeartbeats 800000 in
theorem HasZ_calls (h : PckZ w g d vi) (s : ByteArray) (hs : s.size ≤ maxLen) : Calls Tryz.prog 21 #[.pointer (some ⟨g, 0, none⟩), .string s] w fun e w' => e = .returned (.bool false) ∧ w' = w := by
  have k1 : w.cell? ⟨g, 1, none⟩ = some (.map none) := by rw [Blk.cell h]; rfl
  have hl0 := lookZ s hs w
  go_enter Tryz.func21, Tryz.ntmps21
  go_wp2_with fail
  go_ret
  exact ⟨rfl, rfl⟩
theorem HasN_calls (s : ByteArray) (w : World) : Calls Tryz.prog 21 #[.pointer none, .string s] w fun e w' => e = .returned (.bool false) ∧ w' = w := by
  go_enter Tryz.func21, Tryz.ntmps21
  go_wp2_with fail
  go_ret
  exact ⟨rfl, rfl⟩
/-- The word on an id of which there is no object. -/
def noK (s : ByteArray) : Int := if s.size = 32 then 6 else 1
set_option maxRecDepth 100000 in
set_option maxHeartbeats 800000 in
theorem GetX_calls (p : Option Addr) (s : ByteArray) (w : World) (hh : Calls Tryz.prog 21 #[.pointer p, .string s] w fun e w' => e = .returned (.bool false) ∧ w' = w) :
    Calls Tryz.prog 16 #[.pointer p, .string s] w fun e w' => e = .returned (.tuple #[.slice none 0 0, .int .i64 (noK s)]) ∧ w' = w := by
  have HH := Lib.hid hh
  clear hh
  by_cases h32 : s.size = 32
  · have d1 : ((s.size : Int) != 32) = false := by simp; omega
    have e : Hid (noK s = 6) := by unfold Hid noK; rw [if_pos h32]
    clear h32
    go_enter Tryz.func16, Tryz.ntmps16
    go_wp2_with (go_at_call 21; refine HH.out.mono ?_; rintro e w' ⟨rfl, hw⟩; obtain rfl := hw.symm)
    go_ret2
    rw [e.out]
    exact ⟨rfl, rfl⟩
  · have d1 : ((s.size : Int) != 32) = true := by simp; omega
    have e : Hid (noK s = 1) := by unfold Hid noK; rw [if_neg h32]
    clear h32
    go_enter Tryz.func16, Tryz.ntmps16
    go_wp2_with fail
    go_ret2
    rw [e.out]
    exact ⟨rfl, rfl⟩
set_option maxRecDepth 100000 in
set_option maxHeartbeats 800000 in
theorem PartsZ_calls (h : PckZ w g d vi) : Calls Tryz.prog 23 #[.pointer (some ⟨g, 0, none⟩)] w fun e w' => (∃ A c, e = .returned (.slice A 0 c)) ∧ Below w.heap.size w w' := by
  have k0 : w.cell? ⟨g, 0, none⟩ = some (.slice none 0 0) := by rw [Blk.cell h]; rfl
  have HC := Lib.hid (cloneP_calls none [] 0 w Rd.nil (by simp))
  go_enter Tryz.func23, Tryz.ntmps23
  go_wp2_with fail
  refine HC.out.mono ?_
  rintro e w1 ⟨A1, c1, rfl, ho, hb⟩
  go_wp2_with fail
  go_ret
  exact ⟨⟨A1, c1, rfl⟩, hb⟩
theorem PartsN_calls (w : World) : Calls Tryz.prog 23 #[.pointer none] w fun e w' => (∃ A c, e = .returned (.slice A 0 c)) ∧ Below w.heap.size w w' := by
  go_enter Tryz.func23, Tryz.ntmps23
  go_wp2_with fail
  go_ret
  exact ⟨⟨none, 0, rfl⟩, Below.refl _ _⟩
end
end Go.Proofs.YtnaakfnbmeimaaaGreat
