/- The walks of the layer 'code' and of its reference: what each function hands back, said by the plain functions of CodeSpec. Conditions: bytes that are made fit 2^47. -/
import Derived.Test.YtibcehdehhffjaaRows
import Derived.Test.YtibcehdehhffjaaWords
import Derived.Test.YtibcehdehhffjaaCodeSpec
namespace Go.Proofs.Ytibcehdehhffjaa
open Go.RowKit Go.Dol

theorem info_u8 : (Try.prog.info? 5).map (fun i => (i.zero, i.size, i.bytes)) = some (some (.int .u8 0), 1, 1) := by kernel_rfl

theorem eql_nil (w : World) (A : Option Addr) (n c : Nat) : (binOp .eql 22 (.slice A n c) (.slice none 0 0)).run Try.prog w = .ok (.bool A.isNone) w := Lib.run_eql_slice_nil w _ _ A n c 0 0 Try.underlying22

/-- append onto bytes that the call owns. -/
theorem app8 {w : World} {ops : Array Oper} {rest : List Oper} {o : Oper} {a : Act} {Q : Exit → Act → World → Prop} (hgd : o.guard = none) (s x : Operand)
    (ho : o.op = .call { callee := .builtin .append, args := #[s, x], argTypes := #[22, 22] })
    (base : Nat) (v : Value) (n : Nat) (xs : List UInt8) (hs : a.eval s = v) (hown : w.ownsRow base 5 1 v n (bc xs))
    (B : Nat) (A : Option Addr) (m c : Nat) (news : List UInt8) (hx : a.eval x = .slice A m c) (hr : Rd w B 1 A m (bc news))
    (hlen : n + m ≤ 140737488355328) (hbase : base ≤ w.heap.size)
    (h : ∀ (l' : List UInt8) (A' : Option Addr) (c' : Nat) (w' : World), Hid (l' = xs ++ news) → w'.ownsRow base 5 1 (.slice A' l'.length c') l'.length (bc l') → Below base w w' → w.grownBy w' v.ownBlock →
      Hid ((Value.slice A' l'.length c').ownBlock = v.ownBlock ∨ (Value.slice A' l'.length c').ownBlock = some w.heap.size) →
      l'.length ≤ c' → c' ≤ maxLen → wpList Try.prog ops Q rest (a.put o.dst (.slice A' l'.length c')) w') : wpList Try.prog ops Q (o :: rest) a w := by
  refine wpList_append_rd w hgd s x _ ho base _ _ 1 1 Try.underlying22 info_u8 rfl (by decide) v n (bc xs) hs hown B A m c (bc news) hx hr (bc_one _) (by unfold maxLen; omega) (by omega) hbase ?_
  intro A' c' w' h1 h2 h3 h4 h5
  have e1 : n = xs.length := by have := hown.1; rw [bc_length] at this; omega
  have e2 : m = news.length := by have := hr.len; rw [bc_length] at this; omega
  have e : n + m = (xs ++ news).length := by rw [List.length_append]; omega
  rw [← bc_append, e] at h1
  rw [e] at h3 h4 ⊢
  exact h _ A' c' w' rfl h1 ((Below.refl _ _).grown h2 hbase (fun k hk => (hown.lt k hk).1)) h2 h3 h4 h5

/-- append of one byte onto bytes that the call owns: the byte lies in a block that was just made. -/
theorem push8 {w : World} {k : Int} {ops : Array Oper} {rest : List Oper} {o : Oper} {a : Act} {Q : Exit → Act → World → Prop} (hgd : o.guard = none) (s x : Operand)
    (ho : o.op = .call { callee := .builtin .append, args := #[s, x], argTypes := #[22, 22] })
    (base : Nat) (v : Value) (n : Nat) (xs : List UInt8) (hs : a.eval s = v) (hown : w.ownsRow base 5 1 v n (bc xs))
    (hx : a.eval x = .slice (some ⟨w.heap.size, 0, none⟩) 1 1) (hk0 : 0 ≤ k) (hk1 : k < 256)
    (hlen : n + 1 ≤ 140737488355328) (hbase : base ≤ w.heap.size)
    (h : ∀ (d : UInt8) (l' : List UInt8) (A' : Option Addr) (c' : Nat) (w' : World), Hid ((d.toNat : Int) = k) → Hid (l' = xs ++ [d]) → w'.ownsRow base 5 1 (.slice A' l'.length c') l'.length (bc l') → Below base w w' → w.grownBy w' v.ownBlock →
      Hid ((Value.slice A' l'.length c').ownBlock = v.ownBlock ∨ (Value.slice A' l'.length c').ownBlock = some (w.heap.size + 1)) →
      l'.length ≤ c' → c' ≤ maxLen → wpList Try.prog ops Q rest (a.put o.dst (.slice A' l'.length c')) w') :
    wpList Try.prog ops Q (o :: rest) a (w.alloc (.cells #[.int .u8 k] 5)) := by
  have hb := (Below.refl base w).alloc hbase (.cells #[.int .u8 k] 5)
  refine app8 hgd s x ho base v n xs hs (hown.alloc _) (w.heap.size + 1) _ 1 1 [UInt8.ofNat k.toNat] hx (Rd.one w _ k hk0 hk1) hlen (by simp; omega) ?_
  intro l' A' c' w' h0 h1 h2 h3 h4 h5 h6
  refine h (UInt8.ofNat k.toNat) l' A' c' w' ?_ h0 h1 (hb.trans h2) ⟨h3.os, h3.tape, h3.output, Nat.le_trans (by simp) h3.size, fun i hi hne => (h3.block i (by simp; omega) hne).trans (Below.heap_alloc w _ i hi)⟩ ?_ h5 h6
  · unfold Hid
    rw [UInt8.toNat_ofNat']
    omega
  · have e : (w.alloc (.cells #[.int .u8 k] 5)).heap.size = w.heap.size + 1 := by simp
    rw [← e]
    exact h4

/-- append of a text's bytes onto bytes that the call owns. -/
theorem app8s {w : World} {ops : Array Oper} {rest : List Oper} {o : Oper} {a : Act} {Q : Exit → Act → World → Prop} (hgd : o.guard = none) (s x : Operand)
    (ho : o.op = .call { callee := .builtin .append, args := #[s, x], argTypes := #[22, 9] })
    (base : Nat) (v : Value) (n : Nat) (xs : List UInt8) (hs : a.eval s = v) (hown : w.ownsRow base 5 1 v n (bc xs))
    (st : ByteArray) (hx : a.eval x = .string st) (hlen : n + st.size ≤ 140737488355328) (hbase : base ≤ w.heap.size)
    (h : ∀ (l' : List UInt8) (A' : Option Addr) (c' : Nat) (w' : World), Hid (l' = xs ++ st.data.toList) → w'.ownsRow base 5 1 (.slice A' l'.length c') l'.length (bc l') → Below base w w' → w.grownBy w' v.ownBlock →
      l'.length ≤ c' → c' ≤ maxLen → wpList Try.prog ops Q rest (a.put o.dst (.slice A' l'.length c')) w') : wpList Try.prog ops Q (o :: rest) a w := by
  obtain ⟨i0, hi, hz0, hz1, hz2⟩ := info_parts info_u8
  refine Lib.wpList_append_own_string w hgd s x _ _ ho base _ i0 Try.underlying22 Try.underlying9 hi hz0 hz1 hz2 v n (bc xs) hs hown st hx (by unfold maxLen; omega) hlen hbase ?_
  intro v' w' h1 h2 _
  obtain ⟨A', c', rfl, h4, h5⟩ := own_form h1
  have e1 : n = xs.length := by have := hown.1; rw [bc_length] at this; omega
  have e2 : st.size = st.data.toList.length := by rw [Array.length_toList]; rfl
  have e : n + st.size = (xs ++ st.data.toList).length := by rw [List.length_append]; omega
  have e3 : bc xs ++ Lib.strCells st = bc (xs ++ st.data.toList) := by rw [bc_append]; rfl
  rw [e3, e] at h1
  rw [e] at h4 ⊢
  exact h _ A' c' w' rfl h1 ((Below.refl _ _).grown h2 hbase (fun k hk => (hown.lt k hk).1)) h2 h4 h5

/-- What owns nothing yet: '[]byte{}'. -/
theorem own_empty (w : World) : (w.alloc (.cells #[] 5)).ownsRow w.heap.size 5 1 (.slice (some ⟨w.heap.size, 0, none⟩) 0 0) 0 (bc []) :=
  World.ownsRow_made w #[] 0 (Nat.le_refl _) (by unfold maxLen; omega) rfl

set_option maxHeartbeats 400000 in
theorem Clone_calls (A : Option Addr) (l : List UInt8) (c : Nat) (w : World) (hr : Rd w w.heap.size 1 A l.length (bc l)) (hl : l.length ≤ 140737488355328) :
    Calls Try.prog 26 #[.slice A l.length c] w (RetB 5 w l) := by
  have he := eql_nil
  cases A with
  | none =>
    have h0 := hr.none_zero
    obtain rfl : l = [] := List.eq_nil_of_length_eq_zero h0
    go_enter Try.func26, Try.ntmps26
    go_wp2
    go_ret
    exact ⟨[], none, 0, rfl, rfl, World.ownsRow_nil _ _ _ _, Below.refl _ _, Nat.le_refl _, by unfold maxLen; omega⟩
  | some a =>
    go_enter Try.func26, Try.ntmps26
    go_wp2_with (at_builtin; refine app8 rfl (.tmp 5) (.tmp 6) rfl w.heap.size _ 0 [] rfl (own_empty w) w.heap.size (some a) l.length c l rfl (hr.alloc (Nat.le_refl _) _) (by omega) (by simp) ?_)
    intro l' A' c' w' e' h1 hb h2 h3 h4 h5
    go_wp2
    go_ret
    exact ⟨l', A', c', e', rfl, h1, ((Below.refl _ _).alloc (Nat.le_refl _) _).trans hb, h4, h5⟩

theorem Clone_cut (A : Option Addr) (l : List UInt8) (n c : Nat) (w : World) (hn : n = l.length) (hr : Rd w w.heap.size 1 A n (bc l)) (hl : n ≤ 140737488355328) :
    Calls Try.prog 26 #[.slice A n c] w (RetB 5 w l) := by
  subst hn
  exact Clone_calls A l c w hr hl

set_option maxHeartbeats 400000 in
theorem laidB_calls (A : Option Addr) (l : List UInt8) (c : Nat) (A2 : Option Addr) (l2 : List UInt8) (c2 : Nat) (w : World) (hr : Rd w w.heap.size 1 A l.length (bc l)) (hr2 : Rd w w.heap.size 1 A2 l2.length (bc l2))
    (hl : l.length + l2.length ≤ 140737488355328) :
    Calls Try.prog 24 #[.slice A l.length c, .slice A2 l2.length c2] w (RetB 5 w (l ++ l2)) := by
  go_enter Try.func24, Try.ntmps24
  go_wp2_with fail
  refine (Clone_calls A l c w hr (by omega)).mono ?_
  rintro e w1 ⟨l1, A1, c1, e1, rfl, h1, hb1, h2, h3⟩
  have hle : l1.length ≤ l.length := by rw [e1.out]; exact Nat.le_refl _
  have hs := hb1.size
  go_wp2_with (at_builtin; refine app8 rfl (.tmp 6) (.tmp 7) rfl w.heap.size _ l1.length l1 rfl h1 w.heap.size A2 l2.length c2 l2 rfl (hr2.below hb1) (by omega) hs ?_)
  intro l' A' c' w' e' g1 hb g2 g3 g4 g5
  go_wp2
  go_ret
  exact ⟨l', A', c', by unfold Hid at e1 e' ⊢; rw [e', e1], rfl, g1, hb1.trans hb, g4, g5⟩

set_option maxHeartbeats 400000 in
theorem laidS_calls (A : Option Addr) (l : List UInt8) (c : Nat) (s : ByteArray) (w : World) (hr : Rd w w.heap.size 1 A l.length (bc l))
    (hl : l.length + s.size ≤ 140737488355328) :
    Calls Try.prog 25 #[.slice A l.length c, .string s] w (RetB 5 w (l ++ s.data.toList)) := by
  go_enter Try.func25, Try.ntmps25
  go_wp2_with fail
  refine (Clone_calls A l c w hr (by omega)).mono ?_
  rintro e w1 ⟨l1, A1, c1, e1, rfl, h1, hb1, h2, h3⟩
  have hle : l1.length ≤ l.length := by rw [e1.out]; exact Nat.le_refl _
  have hs := hb1.size
  go_wp2_with (at_builtin; refine app8s rfl (.tmp 6) (.tmp 7) rfl w.heap.size _ l1.length l1 rfl h1 s rfl (by omega) hs ?_)
  intro l' A' c' w' e' g1 hb g2 g4 g5
  go_wp2
  go_ret
  exact ⟨l', A', c', by unfold Hid at e1 e' ⊢; rw [e', e1], rfl, g1, hb1.trans hb, g4, g5⟩

/-- The loop of PutNum: the groups that are laid, and the number that is left. -/
def PutRel (N : Nat) (w : World) (n v : Value) (wr : World) : Prop :=
  ∃ (m : Nat) (l : List UInt8) (A : Option Addr) (c : Nat), n = .int .i64 m ∧ v = .slice A l.length c ∧ wr.ownsRow w.heap.size 5 1 (.slice A l.length c) l.length (bc l) ∧ Hid (l ++ num m = num N) ∧ Below w.heap.size w wr ∧ m ≤ N

theorem byte_of {d : UInt8} {k : Int} {n : Nat} (h : Hid ((d.toNat : Int) = k)) (e : k = (n : Nat)) : d = UInt8.ofNat n := by
  have h' := h.out
  have : d.toNat = n := by omega
  rw [← this]
  simp

/-- What a number counts as, as the code reckons it. -/
theorem clamp_runs (n : Int) : ∃ M : Int, (∀ w : World, (Builtin.max_ #[3, 3] 3 #[.int .i64 n, .int .i64 0]).run Try.prog w = .ok (.int .i64 M) w) ∧
    (∀ w : World, (Builtin.min_ #[3, 3] 3 #[.int .i64 M, .int .i64 4611686018427387903]).run Try.prog w = .ok (.int .i64 (clampN n : Nat)) w) := by
  refine ⟨if 0 > n then 0 else n, fun w => run_max_int2 _ _ _ _ _ _ _, fun w => ?_⟩
  rw [run_min_int2]
  congr 2
  unfold clampN
  split <;> split <;> omega

set_option maxRecDepth 100000 in
set_option maxHeartbeats 400000 in
theorem PutNum_calls (A : Option Addr) (l : List UInt8) (c : Nat) (n : Int) (w : World) (hr : Rd w w.heap.size 1 A l.length (bc l)) (hl : l.length + 9 ≤ 140737488355328) :
    Calls Try.prog 12 #[.slice A l.length c, .int .i64 n] w (RetB 5 w (l ++ num (clampN n))) := by
  obtain ⟨M, hM1, hM2⟩ := clamp_runs n
  obtain ⟨N, hNe⟩ : ∃ N, N = clampN n := ⟨_, rfl⟩
  have HN : Hid (N ≤ mostNum) := by rw [hNe]; exact clampN_le n
  rw [← hNe] at hM2 ⊢
  clear hNe
  go_enter Try.func12, Try.ntmps12
  go_wp2_with fail
  clear hM1 hM2
  go_loopw [1, 5] (fun n' v wr => PutRel N w n' v wr) (fun n' _ _ => (intOf n').toNat)
  case atStart => exact ⟨N, [], none, 0, rfl, rfl, World.ownsRow_nil _ _ _ _, rfl, Below.refl _ _, Nat.le_refl _⟩
  case round =>
    obtain ⟨m, l1, A1, c1, rfl, rfl, h1, h2, h3, h4⟩ := hrel
    have hle : l1.length + (num m).length ≤ 9 := by
      have e1 : (l1 ++ num m).length = (num N).length := by rw [h2.out]
      have e2 := num_length_le 8 N (by have := HN.out; unfold mostNum at this; omega)
      rw [List.length_append] at e1
      omega
    have hnp := num_pos m
    have hle1 : l1.length ≤ 8 := by omega
    clear hle hnp
    have hs := h3.size
    by_cases hm : 128 ≤ m
    · have hmi : (128 : Int) ≤ m := by omega
      have hk := u8_or_128 m
      have hk0 : 0 ≤ bits .or .u8 ((m : Int) % 256) 128 := by omega
      have hk1 : bits .or .u8 ((m : Int) % 256) 128 < 256 := by omega
      have Hk := Lib.hid hk
      clear hk
      go_wp2_with (at_builtin; refine push8 rfl (.tmp 13) (.tmp 17) rfl w.heap.size _ l1.length l1 rfl h1 rfl hk0 hk1 (by omega) (by omega) ?_)
      intro d l' A' c' w' hd e' g1 gb g2 g3 g4 g5
      clear hk0 hk1
      go_wp2_with fail
      refine ⟨⟨m / 128, l', A', c', by go_num, rfl, g1, ?_, h3.trans gb, by omega⟩, by simp [intOf]; omega⟩
      have hd' := byte_of hd Hk.out
      unfold Hid at *
      rw [e', hd', ← h2, num_ge hm]
      simp
    · have hmi : (m : Int) < 128 := by omega
      go_wp2_with (at_builtin; refine push8 rfl (.tmp 20) (.tmp 23) rfl w.heap.size _ l1.length l1 rfl h1 rfl (by omega) (by omega) (by omega) (by omega) ?_)
      intro d l' A' c' w' hd e' g1 gb g2 g3 g4 g5
      have hb := h3.trans gb
      have hs' := hb.size
      have hle' : l'.length ≤ 9 := by rw [e'.out, List.length_append]; simp; omega
      go_wp2_with fail
      refine (laidB_calls A l c A' l' c' w' (hr.belowW hb (Nat.le_refl _) |>.more hs') (Rd.of_own g1) (by omega)).mono ?_
      rintro e w2 ⟨l2, A2, c2, e2, rfl, p1, pb, p2, p3⟩
      go_wp2_with fail
      go_ret
      refine ⟨l2, A2, c2, ?_, rfl, p1.base hs', hb.trans (pb.mono hs'), p2, p3⟩
      have hd' := byte_of (n := m) hd (by omega)
      unfold Hid at *
      rw [e2, e', hd', ← h2, num_lt (by omega)]
end Go.Proofs.Ytibcehdehhffjaa
