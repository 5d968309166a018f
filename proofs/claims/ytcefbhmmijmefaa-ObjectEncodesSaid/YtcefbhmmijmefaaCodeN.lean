/- The contracts of the layer 'code' in the forms that its laws want: at guarded operations; at pieces of a slice. Conditions: as in the contracts. -/
import Derived.Test.YtcefbhmmijmefaaCode6
import Derived.Test.YtcefbhmmijmefaaWords2
namespace Go.Proofs.Ytcefbhmmijmefaa
open Go.RowKit Go.Dol
set_option linter.unusedVariables false

theorem TakeNum_n (A : Option Addr) (l : List UInt8) (n c : Nat) (w : World) (hn : n = l.length) (hr : Rd w w.heap.size 1 A n (bc l)) (hl : n ≤ 140737488355328) (hc : n ≤ c) :
    Calls Try.prog 22 #[.slice A n c] w (RetTake 5 w (takeNum l)) := by
  subst hn
  exact TakeNum_calls A l c w hr hl hc
theorem TakeText_n (A : Option Addr) (l : List UInt8) (n c : Nat) (most : Int) (w : World) (hn : n = l.length) (hr : Rd w w.heap.size 1 A n (bc l)) (hl : n ≤ 140737488355328) (hc : n ≤ c) :
    Calls Try.prog 24 #[.slice A n c, .int .i64 most] w (RetText w (takeText l most)) := by
  subst hn
  exact TakeText_calls A l c most w hr hl hc
theorem Same_n (A1 : Option Addr) (l : List UInt8) (n1 c1 : Nat) (A2 : Option Addr) (l2 : List UInt8) (n2 c2 : Nat) (w : World) (B1 B2 : Nat) (h1 : Rd w B1 1 A1 n1 (bc l)) (h2 : Rd w B2 1 A2 n2 (bc l2)) (he : Hid (l = l2)) :
    Calls Try.prog 15 #[.slice A1 n1 c1, .slice A2 n2 c2] w fun e w' => e = .returned (.bool true) ∧ w = w' := by
  have e1 : n1 = l.length := by have := h1.len; rw [bc_length] at this; omega
  have e2 : n2 = l2.length := by have := h2.len; rw [bc_length] at this; omega
  subst e1
  subst e2
  exact Same_calls A1 l c1 A2 l2 c2 w B1 B2 h1 h2 he

/-- A number's low bits. -/
theorem i64_low (x : Int) (m : Nat) (h : m < 9223372036854775808) : ∃ r : Nat, r ≤ m ∧ bits .and .i64 x (m : Int) = (r : Int) := by
  refine ⟨(BitVec.ofInt 64 x &&& BitVec.ofInt 64 m).toNat, ?_, ?_⟩
  · rw [BitVec.toNat_and, BitVec.ofInt_natCast, BitVec.toNat_ofNat, Nat.mod_eq_of_lt (by omega)]
    exact Nat.and_le_right
  · show IntKind.i64.wrap ((BitVec.ofInt 64 x &&& BitVec.ofInt 64 m).toNat : Int) = _
    have : (BitVec.ofInt 64 x &&& BitVec.ofInt 64 m).toNat ≤ m := by
      rw [BitVec.toNat_and, BitVec.ofInt_natCast, BitVec.toNat_ofNat, Nat.mod_eq_of_lt (by omega)]
      exact Nat.and_le_right
    rw [IntKind.wrap_i64]
    omega

/-- What is cut off is none. -/
theorem takeNum_cut {N p : Nat} (hN : N ≤ mostNum) (hp : p < (num N).length) : takeNum ((num N).take p) = none := by
  cases h : takeNum ((num N).take p) with
  | none => rfl
  | some r =>
    obtain ⟨m, q⟩ := r
    obtain ⟨e, hm⟩ := num_takeNum h
    have h1 := takeNum_num N [] hN
    have h2 : num N = num m ++ (q ++ (num N).drop p) := by rw [← List.append_assoc, ← e, List.take_append_drop]
    rw [List.append_nil] at h1
    have h3 := takeNum_num m (q ++ (num N).drop p) hm
    rw [← h2, h1] at h3
    have h4 := (Prod.mk.inj (Option.some.inj h3)).2
    have h5 := congrArg List.length h4
    simp at h5
    omega
theorem takeText_cut {l : List UInt8} {p : Nat} (hl : l.length ≤ mostNum) (hp : p < (text l).length) : takeText ((text l).take p) l.length = none := by
  cases h : takeText ((text l).take p) l.length with
  | none => rfl
  | some r =>
    obtain ⟨t, q⟩ := r
    obtain ⟨e, ht, ht2⟩ := text_takeText h
    have h1 := takeText_text l [] l.length (Int.le_refl _) hl
    have h2 : text l = text t ++ (q ++ (text l).drop p) := by rw [← List.append_assoc, ← e, List.take_append_drop]
    rw [List.append_nil] at h1
    have h3 := takeText_text t (q ++ (text l).drop p) l.length ht ht2
    rw [← h2, h1] at h3
    have h4 := (Prod.mk.inj (Option.some.inj h3)).2
    have h5 := congrArg List.length h4
    simp at h5
    omega
theorem takeText_less {l : List UInt8} (hl : l.length ≤ mostNum) : takeText (text l) ((l.length : Int) - 1) = none := by
  unfold takeText
  have h1 := takeNum_num l.length l hl
  have e : text l = num l.length ++ l := rfl
  rw [e, h1]
  simp only
  rw [if_neg (by omega)]
end Go.Proofs.Ytcefbhmmijmefaa
