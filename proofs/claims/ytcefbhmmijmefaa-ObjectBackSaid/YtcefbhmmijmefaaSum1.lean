/- The walks of the layer 'sum', its first part: numbers and bytes, a word's turn. Conditions: bytes that are made fit 2^47. -/
import Derived.Test.YtcefbhmmijmefaaU8
import Derived.Test.YtcefbhmmijmefaaBlk
import Derived.Test.YtcefbhmmijmefaaSumSpec
import Derived.Deep.QuietTactic
import Derived.BigQuiet
namespace Go.Proofs.Ytcefbhmmijmefaa
open Go.RowKit Go.Dol
set_option linter.unusedVariables false

theorem u64_byte (n y k : Nat) (hk : k < 8) (hn : n < 256 ^ k) (hy : y < 256) : ∃ z m : Nat, IntKind.u64.wrap ((y : Int) * 2 ^ (8 * k)) = (z : Nat) ∧ bits .or .u64 (n : Int) (z : Int) = (m : Nat) ∧ m = n + 256 ^ k * y := by
  have hp : (256 : Nat) ^ k = 2 ^ (8 * k) := by rw [Nat.pow_mul]
  have hle : 256 ^ k ≤ 256 ^ 7 := Nat.pow_le_pow_right (by decide) (by omega)
  have hz : 256 ^ k * y ≤ 256 ^ 7 * 255 := Nat.mul_le_mul hle (by omega)
  refine ⟨256 ^ k * y, n + 256 ^ k * y, ?_, ?_, rfl⟩
  · have e2 : (y : Int) * 2 ^ (8 * k) = ((256 ^ k * y : Nat) : Int) := by rw [hp, Int.mul_comm]; simp
    rw [e2, IntKind.wrap_u64]
    omega
  · rw [(bits_nat .u64 64 (by decide) wraps_u64 n (256 ^ k * y) (by omega) (by omega)).2]
    rw [hp] at hn ⊢
    rw [Nat.or_comm, ← Nat.two_pow_add_eq_or_of_lt hn y, Nat.add_comm]

set_option maxRecDepth 100000 in
set_option maxHeartbeats 400000 in
theorem number_calls (A : Option Addr) (l : List UInt8) (n c N : Nat) (w : World) (B : Nat) (hr : Rd w B 1 A n (bc l)) (hN : N ≤ n) (h8 : N ≤ 8) (hn : n ≤ 140737488355328) :
    Calls Try.prog 85 #[.slice A n c, .int .i64 N] w fun e w' => e = .returned (.int .u64 (leN (l.take N) : Nat)) ∧ w = w' := by
  have hl : l.length = n := by have := hr.len; rw [bc_length] at this; omega
  have HL := Lib.hid hl
  clear hl
  go_enter Try.func85, Try.ntmps85
  go_wp2_with fail
  go_loop [5, 8] (fun x i => ∃ k m : Nat, x = .int .u64 m ∧ i = .int .i64 k ∧ k ≤ N ∧ Hid (m = leN (l.take k))) (fun _ i => N - (intOf i).toNat)
  case atStart => exact ⟨0, 0, rfl, rfl, Nat.zero_le _, by simp [Hid, leN]⟩
  case round =>
    obtain ⟨k, m, rfl, rfl, hk, hm⟩ := hrel
    by_cases hlt : k < N
    · have hkl : k < l.length := by rw [HL.out]; omega
      obtain ⟨b, off, rfl, hb, hcell⟩ := hr.at_ (by omega)
      have hcx := hcell k _ (bc_get l k hkl)
      obtain ⟨x, hx⟩ : ∃ x, x = (l[k]).toNat := ⟨_, rfl⟩
      have hx256 : x < 256 := by have := (l[k]).toNat_lt; omega
      rw [← hx] at hcx
      have hlen : (l.take k).length = k := by rw [List.length_take]; omega
      obtain ⟨z, m', hz1, hz2, hz3⟩ := u64_byte m x k (by omega) (by rw [hm.out]; have := leN_lt (l.take k); rwa [hlen] at this) hx256
      have hm' : Hid (m' = leN (l.take (k + 1))) := by
        unfold Hid
        rw [List.take_succ_eq_append_getElem hkl, leN_snoc, hlen, hz3, hm.out, ← hx]
      clear hz3 hx hcell hlen hkl
      go_wp2_with fail
      exact ⟨⟨k + 1, m', rfl, by go_num, by omega, hm'⟩, by simp [intOf]; omega⟩
    · have hkN : Hid (k = N) := by unfold Hid; omega
      go_wp2_with fail
      go_ret
      exact ⟨by rw [← hkN.out, ← hm.out]; rfl, rfl⟩

theorem leB_snoc : ∀ (n x : Nat), leB (n + 1) x = leB n x ++ [UInt8.ofNat (x / 256 ^ n % 256)]
  | 0, x => by simp [leB]
  | n + 1, x => by
    rw [leB, leB_snoc n (x / 256), leB, List.cons_append, Nat.div_div_eq_div_mul, Nat.pow_succ, Nat.mul_comm 256]

/-- What a call that lays bytes behind bytes of the call's own hands back. -/
def RetOn (T base : Nat) (w : World) (v : Value) (l : List UInt8) (e : Ending) (w' : World) : Prop :=
  ∃ (l' : List UInt8) (A' : Option Addr) (c' : Nat), Hid (l' = l) ∧ e = .returned (.slice A' l'.length c') ∧ w'.ownsRow base T 1 (.slice A' l'.length c') l'.length (bc l') ∧ Below base w w' ∧ l'.length ≤ c' ∧ c' ≤ maxLen

def LaidRel (l : List UInt8) (x N base : Nat) (w : World) (b y i : Value) (wr : World) : Prop :=
  ∃ (k m : Nat) (l1 : List UInt8) (A1 : Option Addr) (c1 : Nat), b = .slice A1 l1.length c1 ∧ y = .int .u64 m ∧ i = .int .i64 k ∧ k ≤ N ∧ wr.ownsRow base 5 1 (.slice A1 l1.length c1) l1.length (bc l1) ∧
    Hid (l1 = l ++ leB k x) ∧ Hid (m = x / 256 ^ k) ∧ Below base w wr ∧ l1.length ≤ c1 ∧ c1 ≤ maxLen

set_option maxRecDepth 100000 in
set_option maxHeartbeats 400000 in
theorem sumlaid_calls (base : Nat) (A : Option Addr) (l : List UInt8) (c x N : Nat) (w : World) (hown : w.ownsRow base 5 1 (.slice A l.length c) l.length (bc l)) (hb : base ≤ w.heap.size) (hc : l.length ≤ c) (hc2 : c ≤ maxLen)
    (hx : x < 18446744073709551616) (hN : N ≤ 8) (hl : l.length + 8 ≤ 140737488355328) :
    Calls Try.prog 70 #[.slice A l.length c, .int .u64 x, .int .i64 N] w (RetOn 5 base w (.slice A l.length c) (l ++ leB N x)) := by
  have HX := Lib.hid hx
  clear hx
  go_enter Try.func70, Try.ntmps70
  go_wp2_with fail
  go_loopw [0, 1, 8] (fun b y i wr => LaidRel l x N base w b y i wr) (fun _ _ i _ => N - (intOf i).toNat)
  case atStart => exact ⟨0, x, l, A, c, rfl, rfl, rfl, Nat.zero_le _, hown, by simp [Hid, leB], by simp [Hid], Below.refl _ _, hc, hc2⟩
  case round =>
    obtain ⟨k, m, l1, A1, c1, rfl, rfl, rfl, hk, ho, hl1, hm, hbl, i1, i2⟩ := hrel
    have hs := hbl.size
    have hlen : l1.length = l.length + k := by rw [hl1.out, List.length_append, leB_length]
    have hll : l1.length ≤ l.length + k := by omega
    clear hlen
    by_cases hlt : k < N
    · go_wp2_with (at_builtin; refine push8 rfl (.tmp 10) (.tmp 13) rfl base _ l1.length l1 rfl ho rfl (by omega) (by omega) (by omega) (by omega) ?_)
      intro d l' A' c' w' hd e' g1 gb g2 g3 g4 g5
      go_wp2_with fail
      refine ⟨⟨k + 1, m / 256, l', A', c', rfl, by go_num, by go_num, by omega, g1, ?_, ?_, hbl.trans gb, g4, g5⟩, by simp [intOf]; omega⟩
      · have hd' := byte_of (n := m % 256) hd (by omega)
        unfold Hid at *
        rw [e', hl1, hd', hm, leB_snoc, List.append_assoc]
      · unfold Hid at *
        rw [hm, Nat.div_div_eq_div_mul, Nat.pow_succ]
    · have hkN : Hid (k = N) := by unfold Hid; omega
      go_wp2_with fail
      go_ret
      exact ⟨l1, A1, c1, by have := hl1; rwa [hkN.out] at this, rfl, ho, hbl, i1, i2⟩

set_option maxHeartbeats 400000 in
theorem rotate_calls (x : Int) (k : Nat) (w : World) (hx0 : 0 ≤ x) (hx1 : x < 4294967296) (hk0 : 0 < k) (hk1 : k < 32) :
    Calls Try.prog 86 #[.int .u32 x, .int .i64 k] w fun e w' => e = .returned (.int .u32 (rotl x k)) ∧ w = w' := by
  have hf : bits .and .u64 (k : Int) 31 = (k : Int) := by
    have := bits_mask .u64 64 (by decide) wraps_u64 5 (by decide) (k : Int) (by omega) (by omega)
    rw [show (31 : Int) = 2 ^ 5 - 1 by decide, this]
    omega
  go_enter Try.func86, Try.ntmps86
  go_wp2_with fail
  trace_state
  go_ret
  exact ⟨rfl, rfl⟩
end Go.Proofs.Ytcefbhmmijmefaa
