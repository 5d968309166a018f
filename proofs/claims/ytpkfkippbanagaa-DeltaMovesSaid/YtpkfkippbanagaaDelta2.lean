/- The walks of the layer 'delta', its second part: the document's tokens. Conditions: lengths below 2^40. -/
import Derived.Test.YtpkfkippbanagaaDelta1
import Derived.Test.YtpkfkippbanagaaSeg2
namespace Go.Proofs.Ytpkfkippbanagaa
open Go.RowKit Go.Dol
set_option linter.unusedVariables false

/-- Bytes that are handed back, read alone. -/
def RetS (w : World) (l : List UInt8) (e : Ending) (w' : World) : Prop :=
  ∃ (l' : List UInt8) (A : Option Addr) (c : Nat), Hid (l' = l) ∧ e = .returned (.slice A l'.length c) ∧ Rd w' w'.heap.size 1 A l'.length (bc l') ∧ Below w.heap.size w w' ∧ l'.length ≤ c ∧ c ≤ maxLen

set_option maxRecDepth 100000 in
set_option maxHeartbeats 800000 in
theorem refinsert_calls (A : Option Addr) (out : List UInt8) (c : Nat) (A2 : Option Addr) (l : List UInt8) (n c2 : Nat) (w : World) (hn : n = l.length) (hr : Rd w w.heap.size 1 A out.length (bc out)) (hc : out.length ≤ c) (hc2 : c ≤ maxLen) (hr2 : Rd w w.heap.size 1 A2 n (bc l))
    (hl : out.length + 9 + n ≤ 140737488355328) :
    Calls Try.prog 42 #[.slice A out.length c, .slice A2 n c2] w (RetS w (out ++ runB l)) := by
  by_cases h0 : l = []
  · subst h0
    subst hn
    go_enter Try.func42, Try.ntmps42
    go_wp2_with fail
    go_ret
    exact ⟨out, A, c, by simp [Hid, runB], rfl, hr, Below.refl _ _, hc, hc2⟩
  · have hp : 0 < l.length := List.length_pos_iff.2 h0
    have HN := Lib.hid hn
    have hp2 : 0 < n := by omega
    have hz : ((n : Int) == 0) = false := by simp; omega
    have f1 : IntKind.i64.wrap ((n : Int) - 1) = (n : Int) - 1 := IntWalk.i64_in _ (by omega)
    have hcl : Hid (clampN (2 * ((n : Int) - 1)) = 2 * (l.length - 1)) := by unfold Hid clampN; omega
    clear hn hp
    go_enter Try.func42, Try.ntmps42
    go_wp2_with fail
    refine (RefPutNum_calls A out c _ w hr (by omega)).mono ?_
    rintro e w1 ⟨l1, A1, c1, e1, rfl, ho1, hb1, i1, i2⟩
    have hl1 : l1.length ≤ out.length + 9 := by
      rw [e1.out, List.length_append]
      have := num_length_le 8 (clampN (2 * ((n : Int) - 1))) (by have := clampN_le (2 * ((n : Int) - 1)); unfold mostNum at this; omega)
      omega
    have hr2' := (hr2.belowW hb1 (Nat.le_refl _)).more hb1.size
    go_wp2_with (at_builtin; refine app8 rfl (.tmp 14) (.tmp 15) rfl w.heap.size _ l1.length l1 rfl ho1 w1.heap.size A2 n c2 l rfl hr2' (by omega) hb1.size ?_)
    intro l2 A3 c3 w2 e2 ho2 hb2 _ _ i3 i4
    go_wp2_with fail
    go_ret
    refine ⟨l2, A3, c3, ?_, rfl, Rd.of_own ho2, hb1.trans hb2, i3, i4⟩
    unfold Hid runB
    rw [e2.out, e1.out, hcl.out, if_neg h0, List.append_assoc]

set_option maxRecDepth 100000 in
set_option maxHeartbeats 800000 in
theorem refcopyOf_calls (A : Option Addr) (out : List UInt8) (c n k : Nat) (w : World) (hr : Rd w w.heap.size 1 A out.length (bc out)) (hc : out.length ≤ c) (hc2 : c ≤ maxLen) (hn : n ≤ 1099511627776) (hk : k ≤ 1099511627776) (hl : out.length + 18 ≤ 140737488355328) :
    Calls Try.prog 40 #[.slice A out.length c, .int .i64 n, .int .i64 k] w (RetS w (out ++ copyOf n k)) := by
  by_cases h0 : n = 0
  · subst h0
    go_enter Try.func40, Try.ntmps40
    go_wp2_with fail
    go_ret
    exact ⟨out, A, c, by simp [Hid, copyOf], rfl, hr, Below.refl _ _, hc, hc2⟩
  · have hz : ((n : Int) == 0) = false := by simp; omega
    have f1 : IntKind.i64.wrap ((n : Int) - 1) = (n : Int) - 1 := IntWalk.i64_in _ (by omega)
    have f2 : IntKind.i64.wrap (2 * ((n : Int) - 1)) = 2 * ((n : Int) - 1) := IntWalk.i64_in _ (by omega)
    have f3 : IntKind.i64.wrap (2 * ((n : Int) - 1) + 1) = 2 * ((n : Int) - 1) + 1 := IntWalk.i64_in _ (by omega)
    have hcl : Hid (clampN (2 * ((n : Int) - 1) + 1) = 2 * (n - 1) + 1) := by unfold Hid clampN; omega
    have hcl2 : Hid (clampN (k : Int) = k) := by unfold Hid clampN; omega
    have H0 := Lib.hid h0
    clear h0
    go_enter Try.func40, Try.ntmps40
    go_wp2_with fail
    refine (RefPutNum_calls A out c _ w hr (by omega)).mono ?_
    rintro e w1 ⟨l1, A1, c1, e1, rfl, ho1, hb1, i1, i2⟩
    have hl1 : l1.length ≤ out.length + 9 := by
      rw [e1.out, List.length_append]
      have := num_length_le 8 (clampN (2 * ((n : Int) - 1) + 1)) (by have := clampN_le (2 * ((n : Int) - 1) + 1); unfold mostNum at this; omega)
      omega
    go_wp2_with fail
    refine (RefPutNum_calls A1 l1 c1 _ w1 (Rd.of_own ho1) (by omega)).mono ?_
    rintro e w2 ⟨l2, A2, c2, e2, rfl, ho2, hb2, i3, i4⟩
    go_wp2_with fail
    go_ret
    refine ⟨l2, A2, c2, ?_, rfl, Rd.of_own ho2, hb1.next hb2, i3, i4⟩
    unfold Hid copyOf
    rw [e2.out, e1.out, hcl.out, hcl2.out, if_neg H0.out, List.append_assoc]
end Go.Proofs.Ytpkfkippbanagaa
