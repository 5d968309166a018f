/- The walks of the layer 'safe', its fifth part: Save, behind what was there. Conditions: the disk is in good order; names below 2^46, lengths below 2^46. -/
import Derived.Test.YtogjlfpoedeooaaSafe4
namespace Go.Dol
open Go.RowKit
theorem blk_put {W : World} {x : Nat} {T : TypeId} {cs : List Value} (h : Blk W x T cs) {l : Nat} (hl : NoCells W l) (o : Obj) : Blk (W.putObj l o) x T cs := by
  refine (World.putObj_heap_other fun e => ?_).trans h
  obtain ⟨o', ho, hc⟩ := hl
  unfold Blk at h
  rw [← e, h] at ho
  injection ho with ho
  rw [← ho] at hc
  cases hc
theorem below_put {W : World} {N l : Nat} (h : N ≤ l) (o : Obj) : Below N W (W.putObj l o) :=
  ⟨rfl, rfl, rfl, by simp, fun k hk => World.putObj_heap_other (by omega)⟩
end Go.Dol
namespace Go.Proofs.Ytogjlfpoedeooaa
open Go.RowKit Go.Dol Go.Shelf
attribute [local go_sem] Oper.semAt_some
set_option linter.unusedVariables false
section
variable {w w' : World} {g m : Nat} {D : Dk}
theorem Other.no {W : World} {B l : Nat} (h : NoCells W l) (hB : B ≤ l) : Other W B (some l) := by
  intro k hk
  injection hk with hk
  subst hk
  refine ⟨hB, fun cur fr e => ?_⟩
  obtain ⟨o, ho, hc⟩ := h
  rw [ho] at e
  injection e with e
  rw [e] at hc
  cases hc
theorem Dsk.put (h : Dsk w g m D) {l : Nat} (hl : NoCells w l) (hm : m ≠ l) (o : Obj) : Dsk (w.putObj l o) g m D := by
  obtain ⟨al, hB, hM, hF⟩ := h
  exact ⟨al, blk_put hB hl o, hM.keepB (World.putObj_heap_other hm), hF.keep (grownBy_putObj' w l o) (Other.no hl (Nat.zero_le _))⟩
theorem Far.tw {W W' : World} {B g m : Nat} {A : Option Addr} {l : List UInt8} (h : Far W B A l) (ht : Tw W W' g m) (hg : Other W B (some g)) (hm : Other W B (some m)) : Far W' B A l := by
  rcases Nat.eq_zero_or_pos l.length with h0 | h0
  · rw [List.eq_nil_of_length_eq_zero h0]
    exact Far.nil
  obtain ⟨b, off, e, hb, hc⟩ := h.1.at_ h0
  have hs : segBlock A = some b := by rw [e]; rfl
  have hne : ∀ k, Other W B (some k) → b ≠ k := by
    rintro k hk rfl
    obtain ⟨h1, h2⟩ := hk b rfl
    rcases h.2 h0 b hs with h3 | ⟨cur, fr, h3⟩
    · omega
    · exact h2 cur fr h3
  have hk := ht.block b hb (hne g hg) (hne m hm)
  refine ⟨⟨h.1.len, fun _ => ⟨b, off, e, Nat.lt_of_lt_of_le hb ht.size, fun j u hu => (World.cell?_of_block hk).trans (hc j u hu)⟩⟩, fun _ k hk2 => ?_⟩
  rw [hs] at hk2
  injection hk2 with hk2
  subst hk2
  rw [hk]
  exact h.2 h0 b hs
theorem Dsk.others (h : Dsk w g m D) {B : Nat} (hg : B ≤ g) (hm : B ≤ m) : Other w B (some g) ∧ Other w B (some m) := by
  obtain ⟨al, hB, hM, _⟩ := h
  refine ⟨Other.blk hB (by decide) hg, fun k hk => ?_⟩
  injection hk with hk
  subst hk
  exact ⟨hm, (Other.map hM m rfl).2⟩

set_option maxRecDepth 100000 in
set_option maxHeartbeats 800000 in
theorem chunks_calls (A : Option Addr) (k c : Nat) (w : World) : Calls Try.prog 49 #[.slice A k c] w fun e w' => e = .returned (.func (.func 73) #[] #[.pointer (some ⟨w.heap.size, 0, none⟩)]) ∧ w' = w.alloc (.cells #[.slice A k c] 23) := by
  go_enter Try.func49, Try.ntmps49
  go_wp2_with fail
  go_ret
  exact ⟨rfl, rfl⟩

/-- What holds between two rounds of Save's loop: the boxes, the disk with the chunks that came laid. -/
structure SvI (w : World) (g m x3 : Nat) (D : Dk) (n : ByteArray) (pre : List Chunk) (W : World) : Prop where
  b0 : Blk W w.heap.size 25 [.pointer (some ⟨g, 0, none⟩)]
  b2 : Blk W (w.heap.size + 1 + 1) 9 [.string (shd n)]
  b3 : ∃ u, Blk W x3 23 [u]
  tw : Tw w W g m
  dk : Dsk W g m (appAll D (shd n) (pre.map (·.l))).2
structure SvOn (w : World) (g m x3 : Nat) (D : Dk) (n : ByteArray) (pre : List Chunk) (W : World) : Prop where
  i : SvI w g m x3 D n pre W
  b1 : Blk W (w.heap.size + 1) 29 [.int .i64 0]
  ok : (appAll D (shd n) (pre.map (·.l))).1 = 0
structure SvX (w : World) (g m x3 : Nat) (D : Dk) (n : ByteArray) (pre : List Chunk) (W : World) : Prop where
  i : SvI w g m x3 D n pre W
  b1 : Blk W (w.heap.size + 1) 29 [.int .i64 (appAll D (shd n) (pre.map (·.l))).1]
  ok : (appAll D (shd n) (pre.map (·.l))).1 ≠ 0
section
variable {x3 : Nat} {n : ByteArray} {pre : List Chunk} {W : World}
theorem SvI.alloc (h : SvI w g m x3 D n pre W) (o : Obj) : SvI w g m x3 D n pre (W.alloc o) :=
  have hb : Below W.heap.size W (W.alloc o) := (Below.refl _ _).alloc (Nat.le_refl _) _
  ⟨h.b0.alloc o, h.b2.alloc o, by obtain ⟨u, hu⟩ := h.b3; exact ⟨u, hu.alloc o⟩, h.tw.step (Tw.below hb), h.dk.below hb⟩
theorem SvI.put (h : SvI w g m x3 D n pre W) (l : Nat) (o : Obj) (hl : NoCells W l) (hwl : w.heap.size ≤ l) (hm : m < w.heap.size) : SvI w g m x3 D n pre (W.putObj l o) :=
  ⟨blk_put h.b0 hl o, blk_put h.b2 hl o, by obtain ⟨u, hu⟩ := h.b3; exact ⟨u, blk_put hu hl o⟩, h.tw.new1 (grownBy_putObj' W l o) hwl, h.dk.put hl (by omega) o⟩
theorem SvI.cell (h : SvI w g m x3 D n pre W) (u : Value) (h3 : w.heap.size + 1 + 1 < x3) : SvI w g m x3 D n pre (W.setCell ⟨x3, 0, none⟩ u) := by
  obtain ⟨v, hv⟩ := h.b3
  have hg : W.grownBy (W.setCell ⟨x3, 0, none⟩ u) (some x3) := grown_setCell (World.grownBy.refl W _) 0 _
  exact ⟨h.b0.far (p := ⟨x3, 0, none⟩) (by show w.heap.size ≠ x3; omega) u, h.b2.far (p := ⟨x3, 0, none⟩) (by show w.heap.size + 1 + 1 ≠ x3; omega) u, ⟨u, hv.set 0 u⟩, h.tw.new1 hg (by omega), h.dk.keepB hv (by decide) (by decide) hg⟩
end

set_option maxRecDepth 100000 in
set_option maxHeartbeats 1600000 in
theorem Save_noroom (h : Dsk w g m D) (hK : OkD D) (n : ByteArray) (hn : n.size ≤ 140737488355328) (A : Option Addr) (b : List UInt8) (c : Nat) (hbl : b.length ≤ 140737488355328) (hB : nameB (shd n) = true) (h0 : n.size ≠ 0) (hT : endsT n = false) (hd : D.dark = false) (hl : (lookF D.l (shd n)).isSome = false) (hroom : frD D < 16 + ((n.size : Int) + 1) + (b.length : Int)) :
    Calls Try.prog 17 #[.pointer (some ⟨g, 0, none⟩), .string n, .slice A b.length c] w (RetOp w g m (4, D)) := by
  have hE := empty_isnt h0
  have hsz : n.size + 1 ≤ maxLen := by unfold maxLen; omega
  have hm : (shd n).size ≤ maxLen := by rw [shd_size]; exact hsz
  have hb1 := (Below.refl w.heap.size w).alloc (Nat.le_refl _) (.cells #[.pointer (some ⟨g, 0, none⟩)] 25)
  have hb2 := hb1.alloc hb1.size (.cells #[.int .i64 0] 29)
  have hb3 := hb2.alloc hb2.size (.cells #[.string (shd n)] 9)
  have hX := ((Blk.new w 25 [.pointer (some ⟨g, 0, none⟩)]).alloc (.cells #[.int .i64 0] 29)).alloc (.cells #[.string (shd n)] 9)
  have hY := (Blk.new (w.alloc (.cells #[.pointer (some ⟨g, 0, none⟩)] 25)) 29 [.int .i64 0]).alloc (.cells #[.string (shd n)] 9)
  have hZ := Blk.new ((w.alloc (.cells #[.pointer (some ⟨g, 0, none⟩)] 25)).alloc (.cells #[.int .i64 0] 29)) 9 [.string (shd n)]
  rw [World.size_alloc] at hY
  rw [World.size_alloc, World.size_alloc] at hZ
  obtain ⟨W3, hW3⟩ : ∃ W, W = ((w.alloc (.cells #[.pointer (some ⟨g, 0, none⟩)] 25)).alloc (.cells #[.int .i64 0] 29)).alloc (.cells #[.string (shd n)] 9) := ⟨_, rfl⟩
  have hX3 : Blk W3 w.heap.size 25 [.pointer (some ⟨g, 0, none⟩)] := by rw [hW3]; exact hX
  have hY3 : Blk W3 (w.heap.size + 1) 29 [.int .i64 0] := by rw [hW3]; exact hY
  have hZ3 : Blk W3 (w.heap.size + 1 + 1) 9 [.string (shd n)] := by rw [hW3]; exact hZ
  have hB3 : Below w.heap.size w W3 := by rw [hW3]; exact hb3
  have hD3 := h.below hB3
  have HR := Lib.hid (Read_calls hD3 hK.ord (shd n) (fun b => hK.small))
  obtain ⟨hgl, hml⟩ := h.lt
  clear hX hY hZ hb1 hb2 hb3
  change W3 = ((w.alloc (.cells #[.pointer (some ⟨g, 0, none⟩)] 25)).alloc (.cells #[.int .i64 0] 29)).alloc (.cells #[.string (n ++ ⟨#[126]⟩)] 9) at hW3
  refine (callsIn_wide (n := 6)).1 ?_
  refine callsIn_of_wp_marks Try.func17 rfl trivial ?_ rfl
  simp only [Try.ntmps17, List.size_toArray, List.length_cons, List.length_nil, Nat.reduceAdd, Nat.reduceSub, Array.replicate_succ, Array.replicate_zero, List.push_toArray, List.append_toArray, List.nil_append, List.cons_append]
  gi_wp2
  rw [← hW3]
  clear hW3
  refine ⟨trivial, ?_⟩
  refine (callsIn_wide.2 HR.out).mono ?_
  rintro e w1 ⟨l', A1, c1, he, rfl, ho1, hb4⟩
  have hX4 := hX3.below hb4 hX3.lt
  have hY4 := hY3.below hb4 hY3.lt
  have hZ4 := hZ3.below hb4 hZ3.lt
  have hD4 := hD3.below hb4
  have hB4 := hB3.trans (hb4.mono hB3.size)
  have y1 : w1.cell? ⟨w.heap.size, 0, none⟩ = some (.pointer (some ⟨g, 0, none⟩)) := by rw [hX4.cell]; rfl
  have y2 : w1.cell? ⟨w.heap.size + 1, 0, none⟩ = some (.int .i64 0) := by rw [hY4.cell]; rfl
  have z2 := hY4.free 0
  have y3 : w1.cell? ⟨w.heap.size + 1 + 1, 0, none⟩ = some (.string (n ++ ⟨#[126]⟩)) := by rw [hZ4.cell]; rfl
  clear hX3 hY3 hZ3 hD3 hb4 ho1 HR
  have hE0 : (readD D (shd n)).2 ≠ 1 := by unfold readD; rw [if_neg (by rw [hB]; decide)]; cases lookF D.l (shd n) <;> simp
  obtain ⟨er, her⟩ : ∃ er, er = (readD D (shd n)).2 := ⟨_, rfl⟩
  rw [← her] at hE0 ⊢
  have hE1 : (er == 1) = false := beq_eq_false_iff_ne.2 hE0
  clear her hE0
  have hS := HasSuffix_calls n w1 (by omega)
  have eS : decide (n.data.toList.getLast? = some 126) = endsT n := rfl
  rw [eS, hT] at hS
  have HS := Lib.hid hS
  clear hS eS
  gi_wp2
  refine ⟨trivial, ?_⟩
  refine (callsIn_wide.2 HS.out).mono ?_
  rintro e w2 ⟨rfl, hw2⟩
  obtain rfl := hw2.symm
  have hO := Off_calls hD4
  rw [hd] at hO
  have HO := Lib.hid hO
  clear hO
  gi_wp2
  refine ⟨trivial, ?_⟩
  refine (callsIn_wide.2 HO.out).mono ?_
  rintro e w2 ⟨rfl, hw2⟩
  obtain rfl := hw2.symm
  have hH := Has_calls hD4 hK.ord (shd n) hm
  rw [hl] at hH
  have HH := Lib.hid hH
  clear hH
  gi_wp2
  refine ⟨trivial, ?_⟩
  refine (callsIn_wide.2 HH.out).mono ?_
  rintro e w2 ⟨rfl, hw2⟩
  obtain rfl := hw2.symm
  have HFr := Lib.hid (Free_calls hD4)
  gi_wp2
  refine ⟨trivial, ?_⟩
  refine (callsIn_wide.2 HFr.out).mono ?_
  rintro e w5 ⟨rfl, hw5⟩
  obtain rfl := hw5.symm
  have hN := Need_calls n (b.length : Int) w1 hn (by omega) (by omega)
  rw [show max (b.length : Int) 0 = b.length by omega] at hN
  have HN := Lib.hid hN
  obtain ⟨fr, hfr⟩ : ∃ fr, fr = frD D := ⟨_, rfl⟩
  rw [← hfr] at hroom ⊢
  have dR : decide (fr < 16 + ((n.size : Int) + 1) + (b.length : Int)) = true := decide_eq_true hroom
  clear hN hfr hroom
  gi_wp2
  refine ⟨trivial, ?_⟩
  refine (callsIn_wide.2 HN.out).mono ?_
  rintro e w5 ⟨rfl, hw5⟩
  obtain rfl := hw5.symm
  gi_wp2
  have hY5 := hY4.set 0 (.int .i64 4)
  have hg5 : w1.grownBy (w1.setCell ⟨w.heap.size + 1, 0, none⟩ (.int .i64 4)) (some (w.heap.size + 1)) := grown_setCell (World.grownBy.refl w1 _) 0 _
  refine ⟨_, results_one_cell (p := 6) (ty := 29) (by kernel_rfl) _ _ ⟨w.heap.size + 1, 0, none⟩ (.int .i64 4) (by rfl) (errno_cell _ _ _ (by rw [hY5.cell]; rfl)), rfl, hD4.keepB hY4 (by decide) (by decide) hg5, (Tw.below hB4).new1 hg5 (by omega)⟩

set_option maxRecDepth 100000 in
set_option maxHeartbeats 1600000 in
theorem Save_noroom2 (h : Dsk w g m D) (hK : OkD D) (n : ByteArray) (hn : n.size ≤ 140737488355328) (A : Option Addr) (b : List UInt8) (c : Nat) (hbl : b.length ≤ 140737488355328) (hB : nameB (shd n) = true) (h0 : n.size ≠ 0) (hT : endsT n = false) (hd : D.dark = false) (hl : (lookF D.l (shd n)).isSome = true) (hr : (remD D (shd n)).1 = 0) (hroom : frD (remD D (shd n)).2 < 16 + ((n.size : Int) + 1) + (b.length : Int)) :
    Calls Try.prog 17 #[.pointer (some ⟨g, 0, none⟩), .string n, .slice A b.length c] w (RetOp w g m (4, (remD D (shd n)).2)) := by
  have hE := empty_isnt h0
  have hKr := hK.rem (shd n)
  obtain ⟨D1, hD1⟩ : ∃ D1, D1 = (remD D (shd n)).2 := ⟨_, rfl⟩
  rw [← hD1] at hroom hKr
  rw [← hD1]
  have hsz : n.size + 1 ≤ maxLen := by unfold maxLen; omega
  have hm : (shd n).size ≤ maxLen := by rw [shd_size]; exact hsz
  have hb1 := (Below.refl w.heap.size w).alloc (Nat.le_refl _) (.cells #[.pointer (some ⟨g, 0, none⟩)] 25)
  have hb2 := hb1.alloc hb1.size (.cells #[.int .i64 0] 29)
  have hb3 := hb2.alloc hb2.size (.cells #[.string (shd n)] 9)
  have hX := ((Blk.new w 25 [.pointer (some ⟨g, 0, none⟩)]).alloc (.cells #[.int .i64 0] 29)).alloc (.cells #[.string (shd n)] 9)
  have hY := (Blk.new (w.alloc (.cells #[.pointer (some ⟨g, 0, none⟩)] 25)) 29 [.int .i64 0]).alloc (.cells #[.string (shd n)] 9)
  have hZ := Blk.new ((w.alloc (.cells #[.pointer (some ⟨g, 0, none⟩)] 25)).alloc (.cells #[.int .i64 0] 29)) 9 [.string (shd n)]
  rw [World.size_alloc] at hY
  rw [World.size_alloc, World.size_alloc] at hZ
  obtain ⟨W3, hW3⟩ : ∃ W, W = ((w.alloc (.cells #[.pointer (some ⟨g, 0, none⟩)] 25)).alloc (.cells #[.int .i64 0] 29)).alloc (.cells #[.string (shd n)] 9) := ⟨_, rfl⟩
  have hX3 : Blk W3 w.heap.size 25 [.pointer (some ⟨g, 0, none⟩)] := by rw [hW3]; exact hX
  have hY3 : Blk W3 (w.heap.size + 1) 29 [.int .i64 0] := by rw [hW3]; exact hY
  have hZ3 : Blk W3 (w.heap.size + 1 + 1) 9 [.string (shd n)] := by rw [hW3]; exact hZ
  have hB3 : Below w.heap.size w W3 := by rw [hW3]; exact hb3
  have hD3 := h.below hB3
  have HR := Lib.hid (Read_calls hD3 hK.ord (shd n) (fun b => hK.small))
  obtain ⟨hgl, hml⟩ := h.lt
  clear hX hY hZ hb1 hb2 hb3
  change W3 = ((w.alloc (.cells #[.pointer (some ⟨g, 0, none⟩)] 25)).alloc (.cells #[.int .i64 0] 29)).alloc (.cells #[.string (n ++ ⟨#[126]⟩)] 9) at hW3
  refine (callsIn_wide (n := 6)).1 ?_
  refine callsIn_of_wp_marks Try.func17 rfl trivial ?_ rfl
  simp only [Try.ntmps17, List.size_toArray, List.length_cons, List.length_nil, Nat.reduceAdd, Nat.reduceSub, Array.replicate_succ, Array.replicate_zero, List.push_toArray, List.append_toArray, List.nil_append, List.cons_append]
  gi_wp2
  rw [← hW3]
  clear hW3
  refine ⟨trivial, ?_⟩
  refine (callsIn_wide.2 HR.out).mono ?_
  rintro e w1 ⟨l', A1, c1, he, rfl, ho1, hb4⟩
  have hX4 := hX3.below hb4 hX3.lt
  have hY4 := hY3.below hb4 hY3.lt
  have hZ4 := hZ3.below hb4 hZ3.lt
  have hD4 := hD3.below hb4
  have hB4 := hB3.trans (hb4.mono hB3.size)
  have y1 : w1.cell? ⟨w.heap.size, 0, none⟩ = some (.pointer (some ⟨g, 0, none⟩)) := by rw [hX4.cell]; rfl
  have y2 : w1.cell? ⟨w.heap.size + 1, 0, none⟩ = some (.int .i64 0) := by rw [hY4.cell]; rfl
  have z2 := hY4.free 0
  have y3 : w1.cell? ⟨w.heap.size + 1 + 1, 0, none⟩ = some (.string (n ++ ⟨#[126]⟩)) := by rw [hZ4.cell]; rfl
  clear hX3 hY3 hZ3 hD3 hb4 ho1 HR
  have hE0 : (readD D (shd n)).2 ≠ 1 := by unfold readD; rw [if_neg (by rw [hB]; decide)]; cases lookF D.l (shd n) <;> simp
  obtain ⟨er, her⟩ : ∃ er, er = (readD D (shd n)).2 := ⟨_, rfl⟩
  rw [← her] at hE0 ⊢
  have hE1 : (er == 1) = false := beq_eq_false_iff_ne.2 hE0
  clear her hE0
  have hS := HasSuffix_calls n w1 (by omega)
  have eS : decide (n.data.toList.getLast? = some 126) = endsT n := rfl
  rw [eS, hT] at hS
  have HS := Lib.hid hS
  clear hS eS
  gi_wp2
  refine ⟨trivial, ?_⟩
  refine (callsIn_wide.2 HS.out).mono ?_
  rintro e w2 ⟨rfl, hw2⟩
  obtain rfl := hw2.symm
  have hO := Off_calls hD4
  rw [hd] at hO
  have HO := Lib.hid hO
  clear hO
  gi_wp2
  refine ⟨trivial, ?_⟩
  refine (callsIn_wide.2 HO.out).mono ?_
  rintro e w2 ⟨rfl, hw2⟩
  obtain rfl := hw2.symm
  have hH := Has_calls hD4 hK.ord (shd n) hm
  rw [hl] at hH
  have HH := Lib.hid hH
  clear hH
  gi_wp2
  refine ⟨trivial, ?_⟩
  refine (callsIn_wide.2 HH.out).mono ?_
  rintro e w2 ⟨rfl, hw2⟩
  obtain rfl := hw2.symm
  have hRm := Remove_calls hD4 hK (shd n) hm
  have HM := Lib.hid hRm
  clear hRm
  gi_wp2
  refine ⟨trivial, ?_⟩
  refine (callsIn_wide.2 HM.out).mono ?_
  rintro e w2 ⟨rfl, hD5, ht5⟩
  rw [← hD1] at hD5
  have hX6 := hX4.keepB (ht5.block _ hX4.lt (by omega) (by omega))
  have hY6 := hY4.keepB (ht5.block _ hY4.lt (by omega) (by omega))
  have hZ6 := hZ4.keepB (ht5.block _ hZ4.lt (by omega) (by omega))
  have ht6 := (Tw.below (g := g) (m := m) hB4).step ht5
  have x1 : w2.cell? ⟨w.heap.size, 0, none⟩ = some (.pointer (some ⟨g, 0, none⟩)) := by rw [hX6.cell]; rfl
  have x2 : w2.cell? ⟨w.heap.size + 1, 0, none⟩ = some (.int .i64 0) := by rw [hY6.cell]; rfl
  have v2 := hY6.free 0
  have x3 : w2.cell? ⟨w.heap.size + 1 + 1, 0, none⟩ = some (.string (n ++ ⟨#[126]⟩)) := by rw [hZ6.cell]; rfl
  rw [hr]
  have HFr := Lib.hid (Free_calls hD5)
  gi_wp2
  refine ⟨trivial, ?_⟩
  refine (callsIn_wide.2 HFr.out).mono ?_
  rintro e w5 ⟨rfl, hw5⟩
  obtain rfl := hw5.symm
  have hN := Need_calls n (b.length : Int) w2 hn (by omega) (by omega)
  rw [show max (b.length : Int) 0 = b.length by omega] at hN
  have HN := Lib.hid hN
  obtain ⟨fr, hfr⟩ : ∃ fr, fr = frD D1 := ⟨_, rfl⟩
  rw [← hfr] at hroom ⊢
  have dR : decide (fr < 16 + ((n.size : Int) + 1) + (b.length : Int)) = true := decide_eq_true hroom
  clear hN hfr hroom
  gi_wp2
  refine ⟨trivial, ?_⟩
  refine (callsIn_wide.2 HN.out).mono ?_
  rintro e w5 ⟨rfl, hw5⟩
  obtain rfl := hw5.symm
  gi_wp2
  have hY5 := hY6.set 0 (.int .i64 4)
  have hg5 : w2.grownBy (w2.setCell ⟨w.heap.size + 1, 0, none⟩ (.int .i64 4)) (some (w.heap.size + 1)) := grown_setCell (World.grownBy.refl w2 _) 0 _
  refine ⟨_, results_one_cell (p := 6) (ty := 29) (by kernel_rfl) _ _ ⟨w.heap.size + 1, 0, none⟩ (.int .i64 4) (by rfl) (errno_cell _ _ _ (by rw [hY5.cell]; rfl)), rfl, hD5.keepB hY6 (by decide) (by decide) hg5, (ht6).new1 hg5 (by omega)⟩
end
end Go.Proofs.Ytogjlfpoedeooaa

