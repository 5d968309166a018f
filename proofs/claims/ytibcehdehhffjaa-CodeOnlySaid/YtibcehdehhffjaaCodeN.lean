/- The contracts of the layer 'code' in the forms that its laws want: at guarded operations; at pieces of a slice. Conditions: as in the contracts. -/
import Derived.Test.YtibcehdehhffjaaCodeAwake
import Derived.Test.YtibcehdehhffjaaWords2
namespace Go.Proofs.Ytibcehdehhffjaa
open Go.RowKit Go.Dol
set_option linter.unusedVariables false

theorem wpList_wanted {P : Program} {w : World} {ops : Array Oper} {rest : List Oper} {o : Oper} {a : Act} {Q : Exit → Act → World → Prop} (hw : Region.wanted o (yielded ops a.tmps) = true)
    (h : ∀ K : Act → World → Prop, (∀ a w, wpList P ops Q rest a w → K a w) → o.wp P a w K Q) : wpList P ops Q (o :: rest) a w :=
  wpList_step fun K hK => by rw [if_pos hw]; exact h K hK

/-- append onto bytes that the call owns, at a guarded operation. -/
theorem app8g {w : World} {ops : Array Oper} {rest : List Oper} {o : Oper} {a : Act} {Q : Exit → Act → World → Prop} (hw : Region.wanted o (yielded ops a.tmps) = true) (s x : Operand)
    (ho : o.op = .call { callee := .builtin .append, args := #[s, x], argTypes := #[22, 22] })
    (base : Nat) (v : Value) (n : Nat) (xs : List UInt8) (hs : a.eval s = v) (hown : w.ownsRow base 5 1 v n (bc xs))
    (B : Nat) (A : Option Addr) (m c : Nat) (news : List UInt8) (hx : a.eval x = .slice A m c) (hr : Rd w B 1 A m (bc news))
    (hlen : n + m ≤ 140737488355328) (hbase : base ≤ w.heap.size)
    (h : ∀ (l' : List UInt8) (A' : Option Addr) (c' : Nat) (w' : World), Hid (l' = xs ++ news) → w'.ownsRow base 5 1 (.slice A' l'.length c') l'.length (bc l') → Below base w w' → w.grownBy w' v.ownBlock →
      l'.length ≤ c' → c' ≤ maxLen → wpList Try.prog ops Q rest (a.put o.dst (.slice A' l'.length c')) w') : wpList Try.prog ops Q (o :: rest) a w := by
  refine wpList_wanted hw fun K hK => ?_
  refine wp_append_rd w s x _ ho base _ _ 1 1 Try.underlying22 info_u8 rfl (by decide) v n (bc xs) hs hown B A m c (bc news) hx hr (bc_one _) (by unfold maxLen; omega) (by omega) hbase ?_
  intro A' c' w' h1 h2 h3 h4 h5
  have e1 : n = xs.length := by have := hown.1; rw [bc_length] at this; omega
  have e2 : m = news.length := by have := hr.len; rw [bc_length] at this; omega
  have e : n + m = (xs ++ news).length := by rw [List.length_append]; omega
  rw [← bc_append, e] at h1
  rw [e] at h3 h4 ⊢
  exact hK _ _ (h _ A' c' w' rfl h1 ((Below.refl _ _).grown h2 hbase (fun k hk => (hown.lt k hk).1)) h2 h4 h5)

theorem TakeNum_n (A : Option Addr) (l : List UInt8) (n c : Nat) (w : World) (hn : n = l.length) (hr : Rd w w.heap.size 1 A n (bc l)) (hl : n ≤ 140737488355328) (hc : n ≤ c) :
    Calls Try.prog 19 #[.slice A n c] w (RetTake 5 w (takeNum l)) := by
  subst hn
  exact TakeNum_calls A l c w hr hl hc
theorem TakeText_n (A : Option Addr) (l : List UInt8) (n c : Nat) (most : Int) (w : World) (hn : n = l.length) (hr : Rd w w.heap.size 1 A n (bc l)) (hl : n ≤ 140737488355328) (hc : n ≤ c) :
    Calls Try.prog 20 #[.slice A n c, .int .i64 most] w (RetText w (takeText l most)) := by
  subst hn
  exact TakeText_calls A l c most w hr hl hc
theorem Same_n (A1 : Option Addr) (l : List UInt8) (n1 c1 : Nat) (A2 : Option Addr) (l2 : List UInt8) (n2 c2 : Nat) (w : World) (B1 B2 : Nat) (h1 : Rd w B1 1 A1 n1 (bc l)) (h2 : Rd w B2 1 A2 n2 (bc l2)) (he : Hid (l = l2)) :
    Calls Try.prog 11 #[.slice A1 n1 c1, .slice A2 n2 c2] w fun e w' => e = .returned (.bool true) ∧ w = w' := by
  have e1 : n1 = l.length := by have := h1.len; rw [bc_length] at this; omega
  have e2 : n2 = l2.length := by have := h2.len; rw [bc_length] at this; omega
  subst e1
  subst e2
  exact Same_calls A1 l c1 A2 l2 c2 w B1 B2 h1 h2 he

/-- A number's low bits. -/
theorem i64_low (x : Int) (m : Nat) (h : m < 9223372036854775808) : ∃ r : Nat, r ≤ m ∧ bits .and .i64 x (m : Int) = (r : Int) := by
  refine ⟨(BitVec.ofInt 64 x &&& BitVec.ofInt 64 m).toNat, ?_, ?_⟩
  · rw [BitVec.toNat_and, BitVec.ofInt_natCast, BitVec.toNat_ofNat, Nat.mod_eq_of_lt (by omega)]
    exact Nat.and_le_right
  · show IntKind.i64.wrap ((BitVec.ofInt 64 x &&& BitVec.ofInt 64 m).toNat : Int) = _
    have : (BitVec.ofInt 64 x &&& BitVec.ofInt 64 m).toNat ≤ m := by
      rw [BitVec.toNat_and, BitVec.ofInt_natCast, BitVec.toNat_ofNat, Nat.mod_eq_of_lt (by omega)]
      exact Nat.and_le_right
    rw [IntKind.wrap_i64]
    omega

/-- What is cut off is none. -/
theorem takeNum_cut {N p : Nat} (hN : N ≤ mostNum) (hp : p < (num N).length) : takeNum ((num N).take p) = none := by
  cases h : takeNum ((num N).take p) with
  | none => rfl
  | some r =>
    obtain ⟨m, q⟩ := r
    obtain ⟨e, hm⟩ := num_takeNum h
    have h1 := takeNum_num N [] hN
    have h2 : num N = num m ++ (q ++ (num N).drop p) := by rw [← List.append_assoc, ← e, List.take_append_drop]
    rw [List.append_nil] at h1
    have h3 := takeNum_num m (q ++ (num N).drop p) hm
    rw [← h2, h1] at h3
    have h4 := (Prod.mk.inj (Option.some.inj h3)).2
    have h5 := congrArg List.length h4
    simp at h5
    omega
theorem takeText_cut {l : List UInt8} {p : Nat} (hl : l.length ≤ mostNum) (hp : p < (text l).length) : takeText ((text l).take p) l.length = none := by
  cases h : takeText ((text l).take p) l.length with
  | none => rfl
  | some r =>
    obtain ⟨t, q⟩ := r
    obtain ⟨e, ht, ht2⟩ := text_takeText h
    have h1 := takeText_text l [] l.length (Int.le_refl _) hl
    have h2 : text l = text t ++ (q ++ (text l).drop p) := by rw [← List.append_assoc, ← e, List.take_append_drop]
    rw [List.append_nil] at h1
    have h3 := takeText_text t (q ++ (text l).drop p) l.length ht ht2
    rw [← h2, h1] at h3
    have h4 := (Prod.mk.inj (Option.some.inj h3)).2
    have h5 := congrArg List.length h4
    simp at h5
    omega
theorem takeText_less {l : List UInt8} (hl : l.length ≤ mostNum) : takeText (text l) ((l.length : Int) - 1) = none := by
  unfold takeText
  have h1 := takeNum_num l.length l hl
  have e : text l = num l.length ++ l := rfl
  rw [e, h1]
  simp only
  rw [if_neg (by omega)]
end Go.Proofs.Ytibcehdehhffjaa
