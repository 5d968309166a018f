/- Bytes in this seat's numbers: append onto bytes that the call owns, of bytes, of one byte, of a text; bytes to a text. Conditions: bytes that are made fit 2^47. -/
import Derived.Test.YtegolgkagdlocaaRows
import Derived.Test.YtegolgkagdlocaaSeg
namespace Go.Proofs.Ytegolgkagdlocaa
open Go.RowKit Go.Dol

theorem info_u8 : (Try.prog.info? 5).map (fun i => (i.zero, i.size, i.bytes)) = some (some (.int .u8 0), 1, 1) := by kernel_rfl

theorem eql_nil (w : World) (A : Option Addr) (n c : Nat) : (binOp .eql 23 (.slice A n c) (.slice none 0 0)).run Try.prog w = .ok (.bool A.isNone) w := Lib.run_eql_slice_nil w _ _ A n c 0 0 Try.underlying23

/-- append onto bytes that the call owns. -/
theorem app8 {w : World} {ops : Array Oper} {rest : List Oper} {o : Oper} {a : Act} {Q : Exit → Act → World → Prop} (hgd : o.guard = none) (s x : Operand)
    (ho : o.op = .call { callee := .builtin .append, args := #[s, x], argTypes := #[23, 23] })
    (base : Nat) (v : Value) (n : Nat) (xs : List UInt8) (hs : a.eval s = v) (hown : w.ownsRow base 5 1 v n (bc xs))
    (B : Nat) (A : Option Addr) (m c : Nat) (news : List UInt8) (hx : a.eval x = .slice A m c) (hr : Rd w B 1 A m (bc news))
    (hlen : n + m ≤ 140737488355328) (hbase : base ≤ w.heap.size)
    (h : ∀ (l' : List UInt8) (A' : Option Addr) (c' : Nat) (w' : World), Hid (l' = xs ++ news) → w'.ownsRow base 5 1 (.slice A' l'.length c') l'.length (bc l') → Below base w w' → w.grownBy w' v.ownBlock →
      Hid ((Value.slice A' l'.length c').ownBlock = v.ownBlock ∨ (Value.slice A' l'.length c').ownBlock = some w.heap.size) →
      l'.length ≤ c' → c' ≤ maxLen → wpList Try.prog ops Q rest (a.put o.dst (.slice A' l'.length c')) w') : wpList Try.prog ops Q (o :: rest) a w := by
  refine wpList_append_rd w hgd s x _ ho base _ _ 1 1 Try.underlying23 info_u8 rfl (by decide) v n (bc xs) hs hown B A m c (bc news) hx hr (bc_one _) (by unfold maxLen; omega) (by omega) hbase ?_
  intro A' c' w' h1 h2 h3 h4 h5
  have e1 : n = xs.length := by have := hown.1; rw [bc_length] at this; omega
  have e2 : m = news.length := by have := hr.len; rw [bc_length] at this; omega
  have e : n + m = (xs ++ news).length := by rw [List.length_append]; omega
  rw [← bc_append, e] at h1
  rw [e] at h3 h4 ⊢
  exact h _ A' c' w' rfl h1 ((Below.refl _ _).grown h2 hbase (fun k hk => (hown.lt k hk).1)) h2 h3 h4 h5

/-- append of one byte onto bytes that the call owns: the byte lies in a block that was just made. -/
theorem push8 {w : World} {k : Int} {ops : Array Oper} {rest : List Oper} {o : Oper} {a : Act} {Q : Exit → Act → World → Prop} (hgd : o.guard = none) (s x : Operand)
    (ho : o.op = .call { callee := .builtin .append, args := #[s, x], argTypes := #[23, 23] })
    (base : Nat) (v : Value) (n : Nat) (xs : List UInt8) (hs : a.eval s = v) (hown : w.ownsRow base 5 1 v n (bc xs))
    (hx : a.eval x = .slice (some ⟨w.heap.size, 0, none⟩) 1 1) (hk0 : 0 ≤ k) (hk1 : k < 256)
    (hlen : n + 1 ≤ 140737488355328) (hbase : base ≤ w.heap.size)
    (h : ∀ (d : UInt8) (l' : List UInt8) (A' : Option Addr) (c' : Nat) (w' : World), Hid ((d.toNat : Int) = k) → Hid (l' = xs ++ [d]) → w'.ownsRow base 5 1 (.slice A' l'.length c') l'.length (bc l') → Below base w w' → w.grownBy w' v.ownBlock →
      Hid ((Value.slice A' l'.length c').ownBlock = v.ownBlock ∨ (Value.slice A' l'.length c').ownBlock = some (w.heap.size + 1)) →
      l'.length ≤ c' → c' ≤ maxLen → wpList Try.prog ops Q rest (a.put o.dst (.slice A' l'.length c')) w') :
    wpList Try.prog ops Q (o :: rest) a (w.alloc (.cells #[.int .u8 k] 5)) := by
  have hb := (Below.refl base w).alloc hbase (.cells #[.int .u8 k] 5)
  refine app8 hgd s x ho base v n xs hs (hown.alloc _) (w.heap.size + 1) _ 1 1 [UInt8.ofNat k.toNat] hx (Rd.one w _ k hk0 hk1) hlen (by simp; omega) ?_
  intro l' A' c' w' h0 h1 h2 h3 h4 h5 h6
  refine h (UInt8.ofNat k.toNat) l' A' c' w' ?_ h0 h1 (hb.trans h2) ⟨h3.os, h3.tape, h3.output, Nat.le_trans (by simp) h3.size, fun i hi hne => (h3.block i (by simp; omega) hne).trans (Below.heap_alloc w _ i hi)⟩ ?_ h5 h6
  · unfold Hid
    rw [UInt8.toNat_ofNat']
    omega
  · have e : (w.alloc (.cells #[.int .u8 k] 5)).heap.size = w.heap.size + 1 := by simp
    rw [← e]
    exact h4

/-- append of a text's bytes onto bytes that the call owns. -/
theorem app8s {w : World} {ops : Array Oper} {rest : List Oper} {o : Oper} {a : Act} {Q : Exit → Act → World → Prop} (hgd : o.guard = none) (s x : Operand)
    (ho : o.op = .call { callee := .builtin .append, args := #[s, x], argTypes := #[23, 9] })
    (base : Nat) (v : Value) (n : Nat) (xs : List UInt8) (hs : a.eval s = v) (hown : w.ownsRow base 5 1 v n (bc xs))
    (st : ByteArray) (hx : a.eval x = .string st) (hlen : n + st.size ≤ 140737488355328) (hbase : base ≤ w.heap.size)
    (h : ∀ (l' : List UInt8) (A' : Option Addr) (c' : Nat) (w' : World), Hid (l' = xs ++ st.data.toList) → w'.ownsRow base 5 1 (.slice A' l'.length c') l'.length (bc l') → Below base w w' → w.grownBy w' v.ownBlock →
      l'.length ≤ c' → c' ≤ maxLen → wpList Try.prog ops Q rest (a.put o.dst (.slice A' l'.length c')) w') : wpList Try.prog ops Q (o :: rest) a w := by
  obtain ⟨i0, hi, hz0, hz1, hz2⟩ := info_parts info_u8
  refine Lib.wpList_append_own_string w hgd s x _ _ ho base _ i0 Try.underlying23 Try.underlying9 hi hz0 hz1 hz2 v n (bc xs) hs hown st hx (by unfold maxLen; omega) hlen hbase ?_
  intro v' w' h1 h2 _
  obtain ⟨A', c', rfl, h4, h5⟩ := own_form h1
  have e1 : n = xs.length := by have := hown.1; rw [bc_length] at this; omega
  have e2 : st.size = st.data.toList.length := by rw [Array.length_toList]; rfl
  have e : n + st.size = (xs ++ st.data.toList).length := by rw [List.length_append]; omega
  have e3 : bc xs ++ Lib.strCells st = bc (xs ++ st.data.toList) := by rw [bc_append]; rfl
  rw [e3, e] at h1
  rw [e] at h4 ⊢
  exact h _ A' c' w' rfl h1 ((Below.refl _ _).grown h2 hbase (fun k hk => (hown.lt k hk).1)) h2 h4 h5

/-- What owns nothing yet: '[]byte{}'. -/
theorem own_empty (w : World) : (w.alloc (.cells #[] 5)).ownsRow w.heap.size 5 1 (.slice (some ⟨w.heap.size, 0, none⟩) 0 0) 0 (bc []) :=
  World.ownsRow_made w #[] 0 (Nat.le_refl _) (by unfold maxLen; omega) rfl

theorem wpList_wanted {P : Program} {w : World} {ops : Array Oper} {rest : List Oper} {o : Oper} {a : Act} {Q : Exit → Act → World → Prop} (hw : Region.wanted o (yielded ops a.tmps) = true)
    (h : ∀ K : Act → World → Prop, (∀ a w, wpList P ops Q rest a w → K a w) → o.wp P a w K Q) : wpList P ops Q (o :: rest) a w :=
  wpList_step fun K hK => by rw [if_pos hw]; exact h K hK

/-- append onto bytes that the call owns, at a guarded operation. -/
theorem app8g {w : World} {ops : Array Oper} {rest : List Oper} {o : Oper} {a : Act} {Q : Exit → Act → World → Prop} (hw : Region.wanted o (yielded ops a.tmps) = true) (s x : Operand)
    (ho : o.op = .call { callee := .builtin .append, args := #[s, x], argTypes := #[23, 23] })
    (base : Nat) (v : Value) (n : Nat) (xs : List UInt8) (hs : a.eval s = v) (hown : w.ownsRow base 5 1 v n (bc xs))
    (B : Nat) (A : Option Addr) (m c : Nat) (news : List UInt8) (hx : a.eval x = .slice A m c) (hr : Rd w B 1 A m (bc news))
    (hlen : n + m ≤ 140737488355328) (hbase : base ≤ w.heap.size)
    (h : ∀ (l' : List UInt8) (A' : Option Addr) (c' : Nat) (w' : World), Hid (l' = xs ++ news) → w'.ownsRow base 5 1 (.slice A' l'.length c') l'.length (bc l') → Below base w w' → w.grownBy w' v.ownBlock →
      l'.length ≤ c' → c' ≤ maxLen → wpList Try.prog ops Q rest (a.put o.dst (.slice A' l'.length c')) w') : wpList Try.prog ops Q (o :: rest) a w := by
  refine wpList_wanted hw fun K hK => ?_
  refine wp_append_rd w s x _ ho base _ _ 1 1 Try.underlying23 info_u8 rfl (by decide) v n (bc xs) hs hown B A m c (bc news) hx hr (bc_one _) (by unfold maxLen; omega) (by omega) hbase ?_
  intro A' c' w' h1 h2 h3 h4 h5
  have e1 : n = xs.length := by have := hown.1; rw [bc_length] at this; omega
  have e2 : m = news.length := by have := hr.len; rw [bc_length] at this; omega
  have e : n + m = (xs ++ news).length := by rw [List.length_append]; omega
  rw [← bc_append, e] at h1
  rw [e] at h3 h4 ⊢
  exact hK _ _ (h _ A' c' w' rfl h1 ((Below.refl _ _).grown h2 hbase (fun k hk => (hown.lt k hk).1)) h2 h4 h5)

/-- bytes to a string, as a fact for the walk. -/
theorem conv8f {w : World} {B : Nat} {A : Option Addr} {n c : Nat} {l : List UInt8} (hr : Rd w B 1 A n (bc l)) : (convert 23 9 (.slice A n c)).run Try.prog w = .ok (.string ⟨l.toArray⟩) w :=
  run_conv_bs w _ _ _ Try.underlying23 Try.underlying5 Try.underlying9 B A n c l hr

/-- bytes to a string, in a plain region. -/
theorem conv8 {w : World} {ops : Array Oper} {rest : List Oper} {o : Oper} {a : Act} {Q : Exit → Act → World → Prop} (hgd : o.guard = none) (x : Operand)
    (ho : o.op = .convert 23 9 x) (B : Nat) (A : Option Addr) (n c : Nat) (l : List UInt8) (hx : a.eval x = .slice A n c) (hr : Rd w B 1 A n (bc l))
    (h : wpList Try.prog ops Q rest (a.put o.dst (.string ⟨l.toArray⟩)) w) : wpList Try.prog ops Q (o :: rest) a w :=
  wpList_conv_bs hgd x _ _ _ ho Try.underlying23 Try.underlying5 Try.underlying9 B A n c l hx hr h

/-- bytes to a string, at a guarded operation. -/
theorem conv8w {w : World} {o : Oper} {a : Act} {K : Act → World → Prop} {Q : Exit → Act → World → Prop} (x : Operand)
    (ho : o.op = .convert 23 9 x) (B : Nat) (A : Option Addr) (n c : Nat) (l : List UInt8) (hx : a.eval x = .slice A n c) (hr : Rd w B 1 A n (bc l))
    (h : K (a.put o.dst (.string ⟨l.toArray⟩)) w) : o.wp Try.prog a w K Q :=
  wp_conv_bs x _ _ _ ho Try.underlying23 Try.underlying5 Try.underlying9 B A n c l hx hr h

theorem byte_of {d : UInt8} {k : Int} {n : Nat} (h : Hid ((d.toNat : Int) = k)) (e : k = (n : Nat)) : d = UInt8.ofNat n := by
  have h' := h.out
  have : d.toNat = n := by omega
  rw [← this]
  simp

/-- append of bytes onto a slice of bytes of the call's own, wherever it begins. -/
theorem appS8 {w : World} {ops : Array Oper} {rest : List Oper} {o : Oper} {a : Act} {Q : Exit → Act → World → Prop} (hw : Region.wanted o (yielded ops a.tmps) = true) (s xo : Operand)
    (ho : o.op = .call { callee := .builtin .append, args := #[s, xo], argTypes := #[23, 23] })
    (base : Nat) (A : Option Addr) (n c : Nat) (xs : List UInt8) (hs : a.eval s = .slice A n c) (hseg : Seg w base 5 1 A n c (bc xs))
    (B : Nat) (A2 : Option Addr) (m c2 : Nat) (news : List UInt8) (hx : a.eval xo = .slice A2 m c2) (hr : Rd w B 1 A2 m (bc news))
    (hlen : n + m ≤ 140737488355328) (hbase : base ≤ w.heap.size)
    (h : ∀ (l' : List UInt8) (A' : Option Addr) (c' : Nat) (w' : World), Hid (l' = xs ++ news) → Seg w' base 5 1 A' l'.length c' (bc l') → Below base w w' → w.grownBy w' (segRow A c) →
      l'.length ≤ c' → c' ≤ maxLen → wpList Try.prog ops Q rest (a.put o.dst (.slice A' l'.length c')) w') : wpList Try.prog ops Q (o :: rest) a w := by
  refine wpList_wanted hw fun K hK => ?_
  refine wp_append_seg w s xo _ _ ho base _ _ 1 1 Try.underlying23 info_u8 rfl A n c (bc xs) hs hseg _ m (bc news) hx (Src.ofRd Try.underlying23 hr (bc_one _)) (by unfold maxLen; omega) (by omega) hbase ?_
  intro A' c' w' h1 h2 _ h4 h5
  have e1 : n = xs.length := by have := hseg.1; rw [bc_length] at this; omega
  have e2 : m = news.length := by have := hr.len; rw [bc_length] at this; omega
  have e : n + m = (xs ++ news).length := by rw [List.length_append]; omega
  rw [← bc_append, e] at h1
  rw [e] at h4 ⊢
  exact hK _ _ (h _ A' c' w' rfl h1 ((Below.refl _ _).grown h2 hbase (fun k hk => (hseg.row k hk).1)) h2 h4 h5)
end Go.Proofs.Ytegolgkagdlocaa
