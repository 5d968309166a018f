/- The walks of the layer 'safe', its fourth part: Save. Conditions: the disk is in good order; names below 2^46, lengths below 2^46. -/
import Derived.Test.YtogjlfpoedeooaaSafeSpec
namespace Go.Dol
open Go.RowKit
/-- A result that lies in a cell. -/
theorem results_one_cell {P : Program} {fn : Func} {p : Tmp} {ty : TypeId} (h : fn.results = #[.cell p ty]) (tmps : Array Value) (w : World) (a : Addr) (v : Value) (hp : tmps.getD p undef = .pointer (some a)) (hl : (loadVar ty a).run P w = .ok v w) :
    (results fn tmps).run P w = .ok v w := by
  have hp' : tmps[p]?.getD undef = .pointer (some a) := by simpa using hp
  simp [results, h, hp', asAddr, hl]
theorem empty_is {n : ByteArray} (h : n.size = 0) : (n.toList == ([] : List UInt8)) = true := by
  rw [ByteArray.toList_eq, beq_iff_eq]
  exact List.eq_nil_of_length_eq_zero (by rw [str_len]; exact h)
theorem empty_isnt {n : ByteArray} (h : n.size ≠ 0) : (n.toList == ([] : List UInt8)) = false := by
  rw [ByteArray.toList_eq]
  refine beq_eq_false_iff_ne.2 fun e => h ?_
  rw [← str_len, e]
  rfl
/-- A block that is new since w does not count. -/
theorem Tw.new1 {w w' w1 : World} {g m : Nat} (h : Tw w w1 g m) {x : Nat} (hg : w1.grownBy w' (some x)) (hx : w.heap.size ≤ x) : Tw w w' g m :=
  ⟨hg.os.trans h.os, hg.tape.trans h.tape, hg.output.trans h.output, Nat.le_trans h.size hg.size, fun i hi h1 h2 => (hg.block i (Nat.lt_of_lt_of_le hi h.size) (fun e => by injection e with e; omega)).trans (h.block i hi h1 h2)⟩
end Go.Dol
namespace Go.Proofs.Ytogjlfpoedeooaa
open Go.RowKit Go.Dol Go.Shelf
attribute [local go_sem] Oper.semAt_some
set_option linter.unusedVariables false
theorem errno_cell (w : World) (x : Nat) (k : Int) (h : w.cell? ⟨x, 0, none⟩ = some (.int .i64 k)) : (loadVar 29 ⟨x, 0, none⟩).run Try.prog w = .ok (.int .i64 k) w := by
  simp [go_sem, h]
section
variable {w w' : World} {g m : Nat} {D : Dk}
/-- A disk is kept where a block of another type is turned. -/
theorem Dsk.keepB (h : Dsk w g m D) {x : Nat} {T : TypeId} {cs : List Value} (hx : Blk w x T cs) (hT : T ≠ 72) (hU : T ≠ 5) (hg : w.grownBy w' (some x)) : Dsk w' g m D := by
  obtain ⟨al, hB, hM, hF⟩ := h
  have n1 : some g ≠ some x := fun e => by
    injection e with e
    subst e
    unfold Blk at hB hx
    rw [hB] at hx
    injection hx with hx
    injection hx with _ hx
    exact hT hx.symm
  have n2 : some m ≠ some x := fun e => by
    injection e with e
    exact hM.blk_ne hx e.symm
  exact ⟨al, hB.grown hg n1, hM.grown hg n2, hF.keep hg (Other.blk hx hU (Nat.zero_le _))⟩

set_option maxRecDepth 100000 in
set_option maxHeartbeats 1600000 in
theorem Save_bad (h : Dsk w g m D) (hK : OkD D) (n : ByteArray) (hn : n.size ≤ 140737488355328) (A : Option Addr) (b : List UInt8) (c : Nat) (hB : nameB (shd n) = false) :
    Calls Try.prog 17 #[.pointer (some ⟨g, 0, none⟩), .string n, .slice A b.length c] w (RetOp w g m (1, D)) := by
  have hRD : Hid (readD D (shd n) = ([], 1)) := if_pos hB
  have hsz : n.size + 1 ≤ maxLen := by unfold maxLen; omega
  have hm : (shd n).size ≤ maxLen := by rw [shd_size]; exact hsz
  have hb1 := (Below.refl w.heap.size w).alloc (Nat.le_refl _) (.cells #[.pointer (some ⟨g, 0, none⟩)] 25)
  have hb2 := hb1.alloc hb1.size (.cells #[.int .i64 0] 29)
  have hb3 := hb2.alloc hb2.size (.cells #[.string (shd n)] 9)
  have hX := ((Blk.new w 25 [.pointer (some ⟨g, 0, none⟩)]).alloc (.cells #[.int .i64 0] 29)).alloc (.cells #[.string (shd n)] 9)
  have hY := (Blk.new (w.alloc (.cells #[.pointer (some ⟨g, 0, none⟩)] 25)) 29 [.int .i64 0]).alloc (.cells #[.string (shd n)] 9)
  have hZ := Blk.new ((w.alloc (.cells #[.pointer (some ⟨g, 0, none⟩)] 25)).alloc (.cells #[.int .i64 0] 29)) 9 [.string (shd n)]
  rw [World.size_alloc] at hY
  rw [World.size_alloc, World.size_alloc] at hZ
  obtain ⟨W3, hW3⟩ : ∃ W, W = ((w.alloc (.cells #[.pointer (some ⟨g, 0, none⟩)] 25)).alloc (.cells #[.int .i64 0] 29)).alloc (.cells #[.string (shd n)] 9) := ⟨_, rfl⟩
  have hX3 : Blk W3 w.heap.size 25 [.pointer (some ⟨g, 0, none⟩)] := by rw [hW3]; exact hX
  have hY3 : Blk W3 (w.heap.size + 1) 29 [.int .i64 0] := by rw [hW3]; exact hY
  have hZ3 : Blk W3 (w.heap.size + 1 + 1) 9 [.string (shd n)] := by rw [hW3]; exact hZ
  have hB3 : Below w.heap.size w W3 := by rw [hW3]; exact hb3
  have hD3 := h.below hB3
  have HR := Lib.hid (Read_calls hD3 hK.ord (shd n) (fun b => hK.small))
  obtain ⟨hgl, hml⟩ := h.lt
  clear hX hY hZ hb1 hb2 hb3
  change W3 = ((w.alloc (.cells #[.pointer (some ⟨g, 0, none⟩)] 25)).alloc (.cells #[.int .i64 0] 29)).alloc (.cells #[.string (n ++ ⟨#[126]⟩)] 9) at hW3
  refine (callsIn_wide (n := 6)).1 ?_
  refine callsIn_of_wp_marks Try.func17 rfl trivial ?_ rfl
  simp only [Try.ntmps17, List.size_toArray, List.length_cons, List.length_nil, Nat.reduceAdd, Nat.reduceSub, Array.replicate_succ, Array.replicate_zero, List.push_toArray, List.append_toArray, List.nil_append, List.cons_append]
  gi_wp2
  rw [← hW3]
  clear hW3
  refine ⟨trivial, ?_⟩
  refine (callsIn_wide.2 HR.out).mono ?_
  rintro e w1 ⟨l', A1, c1, he, rfl, ho1, hb4⟩
  have hX4 := hX3.below hb4 hX3.lt
  have hY4 := hY3.below hb4 hY3.lt
  have hZ4 := hZ3.below hb4 hZ3.lt
  have hD4 := hD3.below hb4
  have hB4 := hB3.trans (hb4.mono hB3.size)
  have y1 : w1.cell? ⟨w.heap.size, 0, none⟩ = some (.pointer (some ⟨g, 0, none⟩)) := by rw [hX4.cell]; rfl
  have y2 : w1.cell? ⟨w.heap.size + 1, 0, none⟩ = some (.int .i64 0) := by rw [hY4.cell]; rfl
  have z2 := hY4.free 0
  have y3 : w1.cell? ⟨w.heap.size + 1 + 1, 0, none⟩ = some (.string (n ++ ⟨#[126]⟩)) := by rw [hZ4.cell]; rfl
  clear hX3 hY3 hZ3 hD3 hb4 ho1 HR
  have hE : (readD D (shd n)).2 = 1 := by rw [hRD.out]
  rw [hE]
  clear hE
  gi_wp2
  refine ⟨trivial, ?_⟩
  gi_wp2
  have hY5 := hY4.set 0 (.int .i64 1)
  have hg5 : w1.grownBy (w1.setCell ⟨w.heap.size + 1, 0, none⟩ (.int .i64 1)) (some (w.heap.size + 1)) := grown_setCell (World.grownBy.refl w1 _) 0 _
  refine ⟨_, results_one_cell (p := 6) (ty := 29) (by kernel_rfl) _ _ ⟨w.heap.size + 1, 0, none⟩ (.int .i64 1) (by rfl) (errno_cell _ _ _ (by rw [hY5.cell]; rfl)), rfl, hD4.keepB hY4 (by decide) (by decide) hg5, (Tw.below hB4).new1 hg5 (by omega)⟩

set_option maxRecDepth 100000 in
set_option maxHeartbeats 1600000 in
theorem Save_empty (h : Dsk w g m D) (hK : OkD D) (n : ByteArray) (hn : n.size ≤ 140737488355328) (A : Option Addr) (b : List UInt8) (c : Nat) (hB : nameB (shd n) = true) (h0 : n.size = 0) :
    Calls Try.prog 17 #[.pointer (some ⟨g, 0, none⟩), .string n, .slice A b.length c] w (RetOp w g m (1, D)) := by
  have hE := empty_is h0
  have hsz : n.size + 1 ≤ maxLen := by unfold maxLen; omega
  have hm : (shd n).size ≤ maxLen := by rw [shd_size]; exact hsz
  have hb1 := (Below.refl w.heap.size w).alloc (Nat.le_refl _) (.cells #[.pointer (some ⟨g, 0, none⟩)] 25)
  have hb2 := hb1.alloc hb1.size (.cells #[.int .i64 0] 29)
  have hb3 := hb2.alloc hb2.size (.cells #[.string (shd n)] 9)
  have hX := ((Blk.new w 25 [.pointer (some ⟨g, 0, none⟩)]).alloc (.cells #[.int .i64 0] 29)).alloc (.cells #[.string (shd n)] 9)
  have hY := (Blk.new (w.alloc (.cells #[.pointer (some ⟨g, 0, none⟩)] 25)) 29 [.int .i64 0]).alloc (.cells #[.string (shd n)] 9)
  have hZ := Blk.new ((w.alloc (.cells #[.pointer (some ⟨g, 0, none⟩)] 25)).alloc (.cells #[.int .i64 0] 29)) 9 [.string (shd n)]
  rw [World.size_alloc] at hY
  rw [World.size_alloc, World.size_alloc] at hZ
  obtain ⟨W3, hW3⟩ : ∃ W, W = ((w.alloc (.cells #[.pointer (some ⟨g, 0, none⟩)] 25)).alloc (.cells #[.int .i64 0] 29)).alloc (.cells #[.string (shd n)] 9) := ⟨_, rfl⟩
  have hX3 : Blk W3 w.heap.size 25 [.pointer (some ⟨g, 0, none⟩)] := by rw [hW3]; exact hX
  have hY3 : Blk W3 (w.heap.size + 1) 29 [.int .i64 0] := by rw [hW3]; exact hY
  have hZ3 : Blk W3 (w.heap.size + 1 + 1) 9 [.string (shd n)] := by rw [hW3]; exact hZ
  have hB3 : Below w.heap.size w W3 := by rw [hW3]; exact hb3
  have hD3 := h.below hB3
  have HR := Lib.hid (Read_calls hD3 hK.ord (shd n) (fun b => hK.small))
  obtain ⟨hgl, hml⟩ := h.lt
  clear hX hY hZ hb1 hb2 hb3
  change W3 = ((w.alloc (.cells #[.pointer (some ⟨g, 0, none⟩)] 25)).alloc (.cells #[.int .i64 0] 29)).alloc (.cells #[.string (n ++ ⟨#[126]⟩)] 9) at hW3
  refine (callsIn_wide (n := 6)).1 ?_
  refine callsIn_of_wp_marks Try.func17 rfl trivial ?_ rfl
  simp only [Try.ntmps17, List.size_toArray, List.length_cons, List.length_nil, Nat.reduceAdd, Nat.reduceSub, Array.replicate_succ, Array.replicate_zero, List.push_toArray, List.append_toArray, List.nil_append, List.cons_append]
  gi_wp2
  rw [← hW3]
  clear hW3
  refine ⟨trivial, ?_⟩
  refine (callsIn_wide.2 HR.out).mono ?_
  rintro e w1 ⟨l', A1, c1, he, rfl, ho1, hb4⟩
  have hX4 := hX3.below hb4 hX3.lt
  have hY4 := hY3.below hb4 hY3.lt
  have hZ4 := hZ3.below hb4 hZ3.lt
  have hD4 := hD3.below hb4
  have hB4 := hB3.trans (hb4.mono hB3.size)
  have y1 : w1.cell? ⟨w.heap.size, 0, none⟩ = some (.pointer (some ⟨g, 0, none⟩)) := by rw [hX4.cell]; rfl
  have y2 : w1.cell? ⟨w.heap.size + 1, 0, none⟩ = some (.int .i64 0) := by rw [hY4.cell]; rfl
  have z2 := hY4.free 0
  have y3 : w1.cell? ⟨w.heap.size + 1 + 1, 0, none⟩ = some (.string (n ++ ⟨#[126]⟩)) := by rw [hZ4.cell]; rfl
  clear hX3 hY3 hZ3 hD3 hb4 ho1 HR
  have hE0 : (readD D (shd n)).2 ≠ 1 := by unfold readD; rw [if_neg (by rw [hB]; decide)]; cases lookF D.l (shd n) <;> simp
  obtain ⟨er, her⟩ : ∃ er, er = (readD D (shd n)).2 := ⟨_, rfl⟩
  rw [← her] at hE0 ⊢
  have hE1 : (er == 1) = false := beq_eq_false_iff_ne.2 hE0
  clear her hE0
  gi_wp2
  refine ⟨trivial, ?_⟩
  gi_wp2
  have hY5 := hY4.set 0 (.int .i64 1)
  have hg5 : w1.grownBy (w1.setCell ⟨w.heap.size + 1, 0, none⟩ (.int .i64 1)) (some (w.heap.size + 1)) := grown_setCell (World.grownBy.refl w1 _) 0 _
  refine ⟨_, results_one_cell (p := 6) (ty := 29) (by kernel_rfl) _ _ ⟨w.heap.size + 1, 0, none⟩ (.int .i64 1) (by rfl) (errno_cell _ _ _ (by rw [hY5.cell]; rfl)), rfl, hD4.keepB hY4 (by decide) (by decide) hg5, (Tw.below hB4).new1 hg5 (by omega)⟩

set_option maxRecDepth 100000 in
set_option maxHeartbeats 1600000 in
theorem Save_tilde (h : Dsk w g m D) (hK : OkD D) (n : ByteArray) (hn : n.size ≤ 140737488355328) (A : Option Addr) (b : List UInt8) (c : Nat) (hB : nameB (shd n) = true) (h0 : n.size ≠ 0) (hT : endsT n = true) :
    Calls Try.prog 17 #[.pointer (some ⟨g, 0, none⟩), .string n, .slice A b.length c] w (RetOp w g m (1, D)) := by
  have hE := empty_isnt h0
  have hsz : n.size + 1 ≤ maxLen := by unfold maxLen; omega
  have hm : (shd n).size ≤ maxLen := by rw [shd_size]; exact hsz
  have hb1 := (Below.refl w.heap.size w).alloc (Nat.le_refl _) (.cells #[.pointer (some ⟨g, 0, none⟩)] 25)
  have hb2 := hb1.alloc hb1.size (.cells #[.int .i64 0] 29)
  have hb3 := hb2.alloc hb2.size (.cells #[.string (shd n)] 9)
  have hX := ((Blk.new w 25 [.pointer (some ⟨g, 0, none⟩)]).alloc (.cells #[.int .i64 0] 29)).alloc (.cells #[.string (shd n)] 9)
  have hY := (Blk.new (w.alloc (.cells #[.pointer (some ⟨g, 0, none⟩)] 25)) 29 [.int .i64 0]).alloc (.cells #[.string (shd n)] 9)
  have hZ := Blk.new ((w.alloc (.cells #[.pointer (some ⟨g, 0, none⟩)] 25)).alloc (.cells #[.int .i64 0] 29)) 9 [.string (shd n)]
  rw [World.size_alloc] at hY
  rw [World.size_alloc, World.size_alloc] at hZ
  obtain ⟨W3, hW3⟩ : ∃ W, W = ((w.alloc (.cells #[.pointer (some ⟨g, 0, none⟩)] 25)).alloc (.cells #[.int .i64 0] 29)).alloc (.cells #[.string (shd n)] 9) := ⟨_, rfl⟩
  have hX3 : Blk W3 w.heap.size 25 [.pointer (some ⟨g, 0, none⟩)] := by rw [hW3]; exact hX
  have hY3 : Blk W3 (w.heap.size + 1) 29 [.int .i64 0] := by rw [hW3]; exact hY
  have hZ3 : Blk W3 (w.heap.size + 1 + 1) 9 [.string (shd n)] := by rw [hW3]; exact hZ
  have hB3 : Below w.heap.size w W3 := by rw [hW3]; exact hb3
  have hD3 := h.below hB3
  have HR := Lib.hid (Read_calls hD3 hK.ord (shd n) (fun b => hK.small))
  obtain ⟨hgl, hml⟩ := h.lt
  clear hX hY hZ hb1 hb2 hb3
  change W3 = ((w.alloc (.cells #[.pointer (some ⟨g, 0, none⟩)] 25)).alloc (.cells #[.int .i64 0] 29)).alloc (.cells #[.string (n ++ ⟨#[126]⟩)] 9) at hW3
  refine (callsIn_wide (n := 6)).1 ?_
  refine callsIn_of_wp_marks Try.func17 rfl trivial ?_ rfl
  simp only [Try.ntmps17, List.size_toArray, List.length_cons, List.length_nil, Nat.reduceAdd, Nat.reduceSub, Array.replicate_succ, Array.replicate_zero, List.push_toArray, List.append_toArray, List.nil_append, List.cons_append]
  gi_wp2
  rw [← hW3]
  clear hW3
  refine ⟨trivial, ?_⟩
  refine (callsIn_wide.2 HR.out).mono ?_
  rintro e w1 ⟨l', A1, c1, he, rfl, ho1, hb4⟩
  have hX4 := hX3.below hb4 hX3.lt
  have hY4 := hY3.below hb4 hY3.lt
  have hZ4 := hZ3.below hb4 hZ3.lt
  have hD4 := hD3.below hb4
  have hB4 := hB3.trans (hb4.mono hB3.size)
  have y1 : w1.cell? ⟨w.heap.size, 0, none⟩ = some (.pointer (some ⟨g, 0, none⟩)) := by rw [hX4.cell]; rfl
  have y2 : w1.cell? ⟨w.heap.size + 1, 0, none⟩ = some (.int .i64 0) := by rw [hY4.cell]; rfl
  have z2 := hY4.free 0
  have y3 : w1.cell? ⟨w.heap.size + 1 + 1, 0, none⟩ = some (.string (n ++ ⟨#[126]⟩)) := by rw [hZ4.cell]; rfl
  clear hX3 hY3 hZ3 hD3 hb4 ho1 HR
  have hE0 : (readD D (shd n)).2 ≠ 1 := by unfold readD; rw [if_neg (by rw [hB]; decide)]; cases lookF D.l (shd n) <;> simp
  obtain ⟨er, her⟩ : ∃ er, er = (readD D (shd n)).2 := ⟨_, rfl⟩
  rw [← her] at hE0 ⊢
  have hE1 : (er == 1) = false := beq_eq_false_iff_ne.2 hE0
  clear her hE0
  have hS := HasSuffix_calls n w1 (by omega)
  have eS : decide (n.data.toList.getLast? = some 126) = endsT n := rfl
  rw [eS, hT] at hS
  have HS := Lib.hid hS
  clear hS eS
  gi_wp2
  refine ⟨trivial, ?_⟩
  refine (callsIn_wide.2 HS.out).mono ?_
  rintro e w2 ⟨rfl, hw2⟩
  obtain rfl := hw2.symm
  gi_wp2
  have hY5 := hY4.set 0 (.int .i64 1)
  have hg5 : w1.grownBy (w1.setCell ⟨w.heap.size + 1, 0, none⟩ (.int .i64 1)) (some (w.heap.size + 1)) := grown_setCell (World.grownBy.refl w1 _) 0 _
  refine ⟨_, results_one_cell (p := 6) (ty := 29) (by kernel_rfl) _ _ ⟨w.heap.size + 1, 0, none⟩ (.int .i64 1) (by rfl) (errno_cell _ _ _ (by rw [hY5.cell]; rfl)), rfl, hD4.keepB hY4 (by decide) (by decide) hg5, (Tw.below hB4).new1 hg5 (by omega)⟩

set_option maxRecDepth 100000 in
set_option maxHeartbeats 1600000 in
theorem Save_dark (h : Dsk w g m D) (hK : OkD D) (n : ByteArray) (hn : n.size ≤ 140737488355328) (A : Option Addr) (b : List UInt8) (c : Nat) (hB : nameB (shd n) = true) (h0 : n.size ≠ 0) (hT : endsT n = false) (hd : D.dark = true) :
    Calls Try.prog 17 #[.pointer (some ⟨g, 0, none⟩), .string n, .slice A b.length c] w (RetOp w g m (5, D)) := by
  have hE := empty_isnt h0
  have hsz : n.size + 1 ≤ maxLen := by unfold maxLen; omega
  have hm : (shd n).size ≤ maxLen := by rw [shd_size]; exact hsz
  have hb1 := (Below.refl w.heap.size w).alloc (Nat.le_refl _) (.cells #[.pointer (some ⟨g, 0, none⟩)] 25)
  have hb2 := hb1.alloc hb1.size (.cells #[.int .i64 0] 29)
  have hb3 := hb2.alloc hb2.size (.cells #[.string (shd n)] 9)
  have hX := ((Blk.new w 25 [.pointer (some ⟨g, 0, none⟩)]).alloc (.cells #[.int .i64 0] 29)).alloc (.cells #[.string (shd n)] 9)
  have hY := (Blk.new (w.alloc (.cells #[.pointer (some ⟨g, 0, none⟩)] 25)) 29 [.int .i64 0]).alloc (.cells #[.string (shd n)] 9)
  have hZ := Blk.new ((w.alloc (.cells #[.pointer (some ⟨g, 0, none⟩)] 25)).alloc (.cells #[.int .i64 0] 29)) 9 [.string (shd n)]
  rw [World.size_alloc] at hY
  rw [World.size_alloc, World.size_alloc] at hZ
  obtain ⟨W3, hW3⟩ : ∃ W, W = ((w.alloc (.cells #[.pointer (some ⟨g, 0, none⟩)] 25)).alloc (.cells #[.int .i64 0] 29)).alloc (.cells #[.string (shd n)] 9) := ⟨_, rfl⟩
  have hX3 : Blk W3 w.heap.size 25 [.pointer (some ⟨g, 0, none⟩)] := by rw [hW3]; exact hX
  have hY3 : Blk W3 (w.heap.size + 1) 29 [.int .i64 0] := by rw [hW3]; exact hY
  have hZ3 : Blk W3 (w.heap.size + 1 + 1) 9 [.string (shd n)] := by rw [hW3]; exact hZ
  have hB3 : Below w.heap.size w W3 := by rw [hW3]; exact hb3
  have hD3 := h.below hB3
  have HR := Lib.hid (Read_calls hD3 hK.ord (shd n) (fun b => hK.small))
  obtain ⟨hgl, hml⟩ := h.lt
  clear hX hY hZ hb1 hb2 hb3
  change W3 = ((w.alloc (.cells #[.pointer (some ⟨g, 0, none⟩)] 25)).alloc (.cells #[.int .i64 0] 29)).alloc (.cells #[.string (n ++ ⟨#[126]⟩)] 9) at hW3
  refine (callsIn_wide (n := 6)).1 ?_
  refine callsIn_of_wp_marks Try.func17 rfl trivial ?_ rfl
  simp only [Try.ntmps17, List.size_toArray, List.length_cons, List.length_nil, Nat.reduceAdd, Nat.reduceSub, Array.replicate_succ, Array.replicate_zero, List.push_toArray, List.append_toArray, List.nil_append, List.cons_append]
  gi_wp2
  rw [← hW3]
  clear hW3
  refine ⟨trivial, ?_⟩
  refine (callsIn_wide.2 HR.out).mono ?_
  rintro e w1 ⟨l', A1, c1, he, rfl, ho1, hb4⟩
  have hX4 := hX3.below hb4 hX3.lt
  have hY4 := hY3.below hb4 hY3.lt
  have hZ4 := hZ3.below hb4 hZ3.lt
  have hD4 := hD3.below hb4
  have hB4 := hB3.trans (hb4.mono hB3.size)
  have y1 : w1.cell? ⟨w.heap.size, 0, none⟩ = some (.pointer (some ⟨g, 0, none⟩)) := by rw [hX4.cell]; rfl
  have y2 : w1.cell? ⟨w.heap.size + 1, 0, none⟩ = some (.int .i64 0) := by rw [hY4.cell]; rfl
  have z2 := hY4.free 0
  have y3 : w1.cell? ⟨w.heap.size + 1 + 1, 0, none⟩ = some (.string (n ++ ⟨#[126]⟩)) := by rw [hZ4.cell]; rfl
  clear hX3 hY3 hZ3 hD3 hb4 ho1 HR
  have hE0 : (readD D (shd n)).2 ≠ 1 := by unfold readD; rw [if_neg (by rw [hB]; decide)]; cases lookF D.l (shd n) <;> simp
  obtain ⟨er, her⟩ : ∃ er, er = (readD D (shd n)).2 := ⟨_, rfl⟩
  rw [← her] at hE0 ⊢
  have hE1 : (er == 1) = false := beq_eq_false_iff_ne.2 hE0
  clear her hE0
  have hS := HasSuffix_calls n w1 (by omega)
  have eS : decide (n.data.toList.getLast? = some 126) = endsT n := rfl
  rw [eS, hT] at hS
  have HS := Lib.hid hS
  clear hS eS
  gi_wp2
  refine ⟨trivial, ?_⟩
  refine (callsIn_wide.2 HS.out).mono ?_
  rintro e w2 ⟨rfl, hw2⟩
  obtain rfl := hw2.symm
  have hO := Off_calls hD4
  rw [hd] at hO
  have HO := Lib.hid hO
  clear hO
  gi_wp2
  refine ⟨trivial, ?_⟩
  refine (callsIn_wide.2 HO.out).mono ?_
  rintro e w2 ⟨rfl, hw2⟩
  obtain rfl := hw2.symm
  gi_wp2
  have hY5 := hY4.set 0 (.int .i64 5)
  have hg5 : w1.grownBy (w1.setCell ⟨w.heap.size + 1, 0, none⟩ (.int .i64 5)) (some (w.heap.size + 1)) := grown_setCell (World.grownBy.refl w1 _) 0 _
  refine ⟨_, results_one_cell (p := 6) (ty := 29) (by kernel_rfl) _ _ ⟨w.heap.size + 1, 0, none⟩ (.int .i64 5) (by rfl) (errno_cell _ _ _ (by rw [hY5.cell]; rfl)), rfl, hD4.keepB hY4 (by decide) (by decide) hg5, (Tw.below hB4).new1 hg5 (by omega)⟩

set_option maxRecDepth 100000 in
set_option maxHeartbeats 1600000 in
theorem Save_held (h : Dsk w g m D) (hK : OkD D) (n : ByteArray) (hn : n.size ≤ 140737488355328) (A : Option Addr) (b : List UInt8) (c : Nat) (hB : nameB (shd n) = true) (h0 : n.size ≠ 0) (hT : endsT n = false) (hd : D.dark = false) (hl : (lookF D.l (shd n)).isSome = true) (hr : (remD D (shd n)).1 ≠ 0) :
    Calls Try.prog 17 #[.pointer (some ⟨g, 0, none⟩), .string n, .slice A b.length c] w (RetOp w g m (remD D (shd n))) := by
  have hE := empty_isnt h0
  have hsz : n.size + 1 ≤ maxLen := by unfold maxLen; omega
  have hm : (shd n).size ≤ maxLen := by rw [shd_size]; exact hsz
  have hb1 := (Below.refl w.heap.size w).alloc (Nat.le_refl _) (.cells #[.pointer (some ⟨g, 0, none⟩)] 25)
  have hb2 := hb1.alloc hb1.size (.cells #[.int .i64 0] 29)
  have hb3 := hb2.alloc hb2.size (.cells #[.string (shd n)] 9)
  have hX := ((Blk.new w 25 [.pointer (some ⟨g, 0, none⟩)]).alloc (.cells #[.int .i64 0] 29)).alloc (.cells #[.string (shd n)] 9)
  have hY := (Blk.new (w.alloc (.cells #[.pointer (some ⟨g, 0, none⟩)] 25)) 29 [.int .i64 0]).alloc (.cells #[.string (shd n)] 9)
  have hZ := Blk.new ((w.alloc (.cells #[.pointer (some ⟨g, 0, none⟩)] 25)).alloc (.cells #[.int .i64 0] 29)) 9 [.string (shd n)]
  rw [World.size_alloc] at hY
  rw [World.size_alloc, World.size_alloc] at hZ
  obtain ⟨W3, hW3⟩ : ∃ W, W = ((w.alloc (.cells #[.pointer (some ⟨g, 0, none⟩)] 25)).alloc (.cells #[.int .i64 0] 29)).alloc (.cells #[.string (shd n)] 9) := ⟨_, rfl⟩
  have hX3 : Blk W3 w.heap.size 25 [.pointer (some ⟨g, 0, none⟩)] := by rw [hW3]; exact hX
  have hY3 : Blk W3 (w.heap.size + 1) 29 [.int .i64 0] := by rw [hW3]; exact hY
  have hZ3 : Blk W3 (w.heap.size + 1 + 1) 9 [.string (shd n)] := by rw [hW3]; exact hZ
  have hB3 : Below w.heap.size w W3 := by rw [hW3]; exact hb3
  have hD3 := h.below hB3
  have HR := Lib.hid (Read_calls hD3 hK.ord (shd n) (fun b => hK.small))
  obtain ⟨hgl, hml⟩ := h.lt
  clear hX hY hZ hb1 hb2 hb3
  change W3 = ((w.alloc (.cells #[.pointer (some ⟨g, 0, none⟩)] 25)).alloc (.cells #[.int .i64 0] 29)).alloc (.cells #[.string (n ++ ⟨#[126]⟩)] 9) at hW3
  refine (callsIn_wide (n := 6)).1 ?_
  refine callsIn_of_wp_marks Try.func17 rfl trivial ?_ rfl
  simp only [Try.ntmps17, List.size_toArray, List.length_cons, List.length_nil, Nat.reduceAdd, Nat.reduceSub, Array.replicate_succ, Array.replicate_zero, List.push_toArray, List.append_toArray, List.nil_append, List.cons_append]
  gi_wp2
  rw [← hW3]
  clear hW3
  refine ⟨trivial, ?_⟩
  refine (callsIn_wide.2 HR.out).mono ?_
  rintro e w1 ⟨l', A1, c1, he, rfl, ho1, hb4⟩
  have hX4 := hX3.below hb4 hX3.lt
  have hY4 := hY3.below hb4 hY3.lt
  have hZ4 := hZ3.below hb4 hZ3.lt
  have hD4 := hD3.below hb4
  have hB4 := hB3.trans (hb4.mono hB3.size)
  have y1 : w1.cell? ⟨w.heap.size, 0, none⟩ = some (.pointer (some ⟨g, 0, none⟩)) := by rw [hX4.cell]; rfl
  have y2 : w1.cell? ⟨w.heap.size + 1, 0, none⟩ = some (.int .i64 0) := by rw [hY4.cell]; rfl
  have z2 := hY4.free 0
  have y3 : w1.cell? ⟨w.heap.size + 1 + 1, 0, none⟩ = some (.string (n ++ ⟨#[126]⟩)) := by rw [hZ4.cell]; rfl
  clear hX3 hY3 hZ3 hD3 hb4 ho1 HR
  have hE0 : (readD D (shd n)).2 ≠ 1 := by unfold readD; rw [if_neg (by rw [hB]; decide)]; cases lookF D.l (shd n) <;> simp
  obtain ⟨er, her⟩ : ∃ er, er = (readD D (shd n)).2 := ⟨_, rfl⟩
  rw [← her] at hE0 ⊢
  have hE1 : (er == 1) = false := beq_eq_false_iff_ne.2 hE0
  clear her hE0
  have hS := HasSuffix_calls n w1 (by omega)
  have eS : decide (n.data.toList.getLast? = some 126) = endsT n := rfl
  rw [eS, hT] at hS
  have HS := Lib.hid hS
  clear hS eS
  gi_wp2
  refine ⟨trivial, ?_⟩
  refine (callsIn_wide.2 HS.out).mono ?_
  rintro e w2 ⟨rfl, hw2⟩
  obtain rfl := hw2.symm
  have hO := Off_calls hD4
  rw [hd] at hO
  have HO := Lib.hid hO
  clear hO
  gi_wp2
  refine ⟨trivial, ?_⟩
  refine (callsIn_wide.2 HO.out).mono ?_
  rintro e w2 ⟨rfl, hw2⟩
  obtain rfl := hw2.symm
  have hH := Has_calls hD4 hK.ord (shd n) hm
  rw [hl] at hH
  have HH := Lib.hid hH
  clear hH
  gi_wp2
  refine ⟨trivial, ?_⟩
  refine (callsIn_wide.2 HH.out).mono ?_
  rintro e w2 ⟨rfl, hw2⟩
  obtain rfl := hw2.symm
  have HM := Lib.hid (Remove_calls hD4 hK (shd n) hm)
  gi_wp2
  refine ⟨trivial, ?_⟩
  refine (callsIn_wide.2 HM.out).mono ?_
  rintro e w2 ⟨rfl, hD5, ht5⟩
  have hX6 := hX4.keepB (ht5.block _ hX4.lt (by omega) (by omega))
  have hY6 := hY4.keepB (ht5.block _ hY4.lt (by omega) (by omega))
  have hZ6 := hZ4.keepB (ht5.block _ hZ4.lt (by omega) (by omega))
  have ht6 := (Tw.below (g := g) (m := m) hB4).step ht5
  have x1 : w2.cell? ⟨w.heap.size, 0, none⟩ = some (.pointer (some ⟨g, 0, none⟩)) := by rw [hX6.cell]; rfl
  have x2 : w2.cell? ⟨w.heap.size + 1, 0, none⟩ = some (.int .i64 0) := by rw [hY6.cell]; rfl
  have v2 := hY6.free 0
  have x3 : w2.cell? ⟨w.heap.size + 1 + 1, 0, none⟩ = some (.string (n ++ ⟨#[126]⟩)) := by rw [hZ6.cell]; rfl
  obtain ⟨r, hrr⟩ : ∃ r, r = (remD D (shd n)).1 := ⟨_, rfl⟩
  rw [← hrr] at hr ⊢
  have hr1 : (r == 0) = false := beq_eq_false_iff_ne.2 hr
  have HRR := Lib.hid hrr
  clear hrr hr
  gi_wp2
  have hY5 := hY6.set 0 (.int .i64 r)
  have hg5 : w2.grownBy (w2.setCell ⟨w.heap.size + 1, 0, none⟩ (.int .i64 r)) (some (w.heap.size + 1)) := grown_setCell (World.grownBy.refl w2 _) 0 _
  refine ⟨_, results_one_cell (p := 6) (ty := 29) (by kernel_rfl) _ _ ⟨w.heap.size + 1, 0, none⟩ (.int .i64 r) (by rfl) (errno_cell _ _ _ (by rw [hY5.cell]; rfl)), by rw [HRR.out], hD5.keepB hY6 (by decide) (by decide) hg5, (ht6).new1 hg5 (by omega)⟩
end
end Go.Proofs.Ytogjlfpoedeooaa

