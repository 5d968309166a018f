/- Numbers as bytes, in plain Lean: what the layer 'code' computes, and that what was put is taken as it was and that no other bytes say the same. No program is in sight. Conditions: none beyond what each lemma names. The walks of the layer 'code' and of its reference: what each function hands back, said by the plain functions of CodeSpec. Conditions: bytes that are made fit 2^47. The walks of the layer 'code', its second part: the reference's PutNum; texts; numbers that may be below 0. Conditions: bytes that are made fit 2^47. The walks of the layer 'code', its third part: numbers that may be below 0; two rows of bytes held against each other. Conditions: bytes that are made fit 2^47. The walks of the layer 'code', its fourth part: taking numbers and texts. Conditions: bytes that are made fit 2^47. The walks of the layer 'code', its fifth part: taking texts and numbers that may be below 0. Conditions: bytes that are made fit 2^47. The walks of the layer 'code', its sixth part: the reference's taking. Conditions: bytes that are made fit 2^47. The contracts of the layer 'code' in the forms that its laws want: at guarded operations; at pieces of a slice. Conditions: as in the contracts. Taking a text, with what is left as a row of the call's own. Conditions: bytes that are made fit 2^47. -/
import Derived.Test.YtecpbcmpncgokaaGreatRows
import Derived.Test.YtecpbcmpncgokaaGreatWordsA
import Derived.Deep.QuietTactic
import Derived.BigQuiet
namespace Go.Dol

/-- n in groups of 7 bits, the lowest first. -/
def num (n : Nat) : List UInt8 := if n < 128 then [UInt8.ofNat n] else UInt8.ofNat (128 + n % 128) :: num (n / 128)
termination_by n
decreasing_by omega

theorem num_lt {n : Nat} (h : n < 128) : num n = [UInt8.ofNat n] := by rw [num, if_pos h]
theorem num_ge {n : Nat} (h : 128 ≤ n) : num n = UInt8.ofNat (128 + n % 128) :: num (n / 128) := by rw [num, if_neg (by omega)]

theorem num_pos (n : Nat) : 0 < (num n).length := by
  rw [num]
  split <;> simp

/-- As few groups as there can be. -/
theorem num_length_le : ∀ (k n : Nat), n < 128 ^ (k + 1) → (num n).length ≤ k + 1
  | 0, n, h => by
    rw [num_lt (by simpa using h)]
    simp
  | k + 1, n, h => by
    by_cases hn : n < 128
    · rw [num_lt hn]
      simp
    · rw [num_ge (by omega), List.length_cons]
      have h1 : n / 128 < 128 ^ (k + 1) := by
        rw [Nat.div_lt_iff_lt_mul (by omega)]
        rw [Nat.pow_succ] at h
        exact h
      have := num_length_le k (n / 128) h1
      omega

/-- The number with which bytes begin, of at most so many groups; a group of nought at the end, behind others, is none. -/
def dec : Nat → List UInt8 → Option (Nat × List UInt8)
  | 0, _ => none
  | _ + 1, [] => none
  | f + 1, c :: r => if c.toNat < 128 then some (c.toNat, r) else
      match dec f r with
      | none => none
      | some (m, q) => if m = 0 then none else some (c.toNat % 128 + 128 * m, q)

def mostNum : Nat := 4611686018427387903

/-- The number with which bytes begin, and the bytes behind it. -/
def takeNum (b : List UInt8) : Option (Nat × List UInt8) :=
  match dec 9 b with
  | none => none
  | some (n, r) => if n ≤ mostNum then some (n, r) else none

theorem dec_num (f : Nat) : ∀ (n : Nat) (r : List UInt8), n < 128 ^ (f + 1) → dec (f + 1) (num n ++ r) = some (n, r) := by
  induction f with
  | zero =>
    intro n r h
    have hn : n < 128 := by simpa using h
    rw [num_lt hn]
    simp [dec, hn, Nat.mod_eq_of_lt (show n < 256 by omega)]
  | succ g ih =>
    intro n r h
    by_cases hn : n < 128
    · rw [num_lt hn]
      simp [dec, hn, Nat.mod_eq_of_lt (show n < 256 by omega)]
    · rw [num_ge (by omega)]
      have h1 : n / 128 < 128 ^ (g + 1) := by
        rw [Nat.div_lt_iff_lt_mul (by omega)]
        rw [Nat.pow_succ] at h
        exact h
      have hc : (UInt8.ofNat (128 + n % 128)).toNat = 128 + n % 128 := by rw [UInt8.toNat_ofNat']; omega
      rw [List.cons_append, dec, hc, ih (n / 128) r h1]
      simp only
      rw [if_neg (by omega), if_neg (by omega)]
      congr 2
      omega

theorem num_dec : ∀ (f : Nat) (b : List UInt8) (n : Nat) (r : List UInt8), dec f b = some (n, r) → b = num n ++ r ∧ n < 128 ^ f
  | 0, b, n, r, h => by simp [dec] at h
  | f + 1, [], n, r, h => by simp [dec] at h
  | f + 1, c :: q, n, r, h => by
    simp only [dec] at h
    have hp : 0 < 128 ^ f := Nat.pow_pos (by omega)
    by_cases hc : c.toNat < 128
    · rw [if_pos hc] at h
      obtain ⟨rfl, rfl⟩ := Prod.mk.inj (Option.some.inj h)
      refine ⟨by rw [num_lt hc]; simp, ?_⟩
      rw [Nat.pow_succ]
      omega
    · rw [if_neg hc] at h
      cases hd : dec f q with
      | none => rw [hd] at h; cases h
      | some p =>
        obtain ⟨m, s⟩ := p
        rw [hd] at h
        simp only at h
        by_cases hm : m = 0
        · rw [if_pos hm] at h; cases h
        · rw [if_neg hm] at h
          obtain ⟨rfl, rfl⟩ := Prod.mk.inj (Option.some.inj h)
          obtain ⟨rfl, h2⟩ := num_dec f q m s hd
          have hc2 := c.toNat_lt
          refine ⟨?_, by rw [Nat.pow_succ]; omega⟩
          have e1 : 128 + (c.toNat % 128 + 128 * m) % 128 = c.toNat := by omega
          have e2 : (c.toNat % 128 + 128 * m) / 128 = m := by omega
          rw [num_ge (show 128 ≤ c.toNat % 128 + 128 * m by omega), e1, e2]
          simp

theorem takeNum_num (n : Nat) (r : List UInt8) (h : n ≤ mostNum) : takeNum (num n ++ r) = some (n, r) := by
  have h9 : n < 128 ^ 9 := by unfold mostNum at h; omega
  rw [takeNum, dec_num 8 n r h9]
  simp [h]

theorem num_takeNum {b : List UInt8} {n : Nat} {r : List UInt8} (h : takeNum b = some (n, r)) : b = num n ++ r ∧ n ≤ mostNum := by
  unfold takeNum at h
  cases hd : dec 9 b with
  | none => rw [hd] at h; cases h
  | some p =>
    obtain ⟨m, s⟩ := p
    rw [hd] at h
    simp only at h
    by_cases hm : m ≤ mostNum
    · rw [if_pos hm] at h
      obtain ⟨rfl, rfl⟩ := Prod.mk.inj (Option.some.inj h)
      exact ⟨(num_dec 9 b _ _ hd).1, hm⟩
    · rw [if_neg hm] at h; cases h

/-- So much of it has a loop that has gone over the first k groups, none of which was the last. -/
def acc (l : List UInt8) : Nat := l.foldr (fun c m => c.toNat % 128 + 128 * m) 0

theorem acc_snoc (l : List UInt8) (c : UInt8) : acc (l ++ [c]) = acc l + 128 ^ l.length * (c.toNat % 128) := by
  induction l with
  | nil => simp [acc]
  | cons x l ih =>
    have e1 : acc (x :: l ++ [c]) = x.toNat % 128 + 128 * acc (l ++ [c]) := rfl
    have e2 : acc (x :: l) = x.toNat % 128 + 128 * acc l := rfl
    rw [e1, e2, ih, List.length_cons, Nat.pow_succ, Nat.mul_add, Nat.add_assoc, Nat.mul_comm (128 ^ l.length) 128, Nat.mul_assoc]

theorem acc_lt (l : List UInt8) : acc l < 128 ^ l.length := by
  induction l with
  | nil => simp [acc]
  | cons x l ih =>
    have e2 : acc (x :: l) = x.toNat % 128 + 128 * acc l := rfl
    rw [e2, List.length_cons, Nat.pow_succ]
    omega

/-- Behind groups that go on: what is left decides. -/
theorem dec_split : ∀ (l : List UInt8) (f : Nat) (r : List UInt8), (∀ c ∈ l, 128 ≤ c.toNat) →
    dec (l.length + f) (l ++ r) = match dec f r with
      | none => none
      | some (m, q) => if l ≠ [] ∧ m = 0 then none else some (acc l + 128 ^ l.length * m, q)
  | [], f, r, _ => by
    have e : ([] : List UInt8).length + f = f := by simp
    rw [e, List.nil_append]
    cases dec f r with
    | none => rfl
    | some p => simp [acc]
  | x :: l, f, r, h => by
    have e : (x :: l).length + f = (l.length + f) + 1 := by simp [List.length_cons]; omega
    have hx : ¬ x.toNat < 128 := by have := h x (by simp); omega
    rw [e, List.cons_append]
    simp only [dec]
    rw [if_neg hx, dec_split l f r (fun c hc => h c (by simp [hc]))]
    cases dec f r with
    | none => rfl
    | some p =>
      obtain ⟨m, q⟩ := p
      have e2 : acc (x :: l) = x.toNat % 128 + 128 * acc l := rfl
      have hp : 0 < 128 ^ l.length := Nat.pow_pos (by omega)
      by_cases hm : m = 0
      · subst hm
        by_cases hl : l = []
        · subst hl
          simp [acc]
        · simp [hl]
      · have hne : ¬ (acc l + 128 ^ l.length * m = 0) := by
          have : 0 < 128 ^ l.length * m := Nat.mul_pos hp (by omega)
          omega
        simp only [hm, and_false, if_false, hne]
        simp only [e2, List.length_cons, Nat.pow_succ, Nat.mul_add]
        congr 2
        rw [Nat.mul_comm (128 ^ l.length) 128, Nat.mul_assoc]
        omega

theorem dec_short : ∀ (f : Nat) (l : List UInt8), (∀ c ∈ l, 128 ≤ c.toNat) → dec f l = none
  | 0, l, _ => by cases l <;> rfl
  | f + 1, [], _ => rfl
  | f + 1, x :: l, h => by
    have hx : ¬ x.toNat < 128 := by have := h x (by simp); omega
    simp only [dec]
    rw [if_neg hx, dec_short f l (fun c hc => h c (by simp [hc]))]

theorem dec_long (l r : List UInt8) (f : Nat) (hl : f ≤ l.length) (h : ∀ c ∈ l, 128 ≤ c.toNat) : dec f (l ++ r) = none := by
  induction l generalizing f with
  | nil =>
    obtain rfl : f = 0 := by simpa using hl
    cases r <;> rfl
  | cons x l ih =>
    cases f with
    | zero => rfl
    | succ f =>
      have hx : ¬ x.toNat < 128 := by have := h x (by simp); omega
      simp only [List.cons_append, dec]
      rw [if_neg hx, ih f (by simpa using hl) (fun c hc => h c (by simp [hc]))]

/-- The first k groups all go on. -/
def Pre (l : List UInt8) (k : Nat) : Prop := k ≤ l.length ∧ ∀ c ∈ l.take k, 128 ≤ c.toNat
theorem Pre.zero (l : List UInt8) : Pre l 0 := ⟨Nat.zero_le _, by simp⟩
theorem take_succ' (l : List UInt8) (k : Nat) (h : k < l.length) : l.take (k + 1) = l.take k ++ [l[k]] := by rw [List.take_succ_eq_append_getElem h]
theorem Pre.succ {l : List UInt8} {k : Nat} (h : Pre l k) (hk : k < l.length) (hc : 128 ≤ (l[k]).toNat) : Pre l (k + 1) :=
  ⟨hk, fun c hc' => by
    rw [take_succ' l k hk, List.mem_append] at hc'
    rcases hc' with hc' | hc'
    · exact h.2 c hc'
    · rw [List.mem_singleton.1 hc']; exact hc⟩
theorem takeNum_long {l : List UInt8} (h : Pre l 9) : takeNum l = none := by
  have e := dec_long (l.take 9) (l.drop 9) 9 (by rw [List.length_take]; have := h.1; omega) h.2
  rw [List.take_append_drop] at e
  unfold takeNum
  rw [e]
theorem takeNum_end {l : List UInt8} (h : Pre l l.length) : takeNum l = none := by
  have e := dec_short 9 l (by have := h.2; rwa [List.take_length] at this)
  unfold takeNum
  rw [e]
theorem dec_at {l : List UInt8} {k : Nat} (h : Pre l k) (hk : k < l.length) (h9 : k < 9) (hc : (l[k]).toNat < 128) :
    dec 9 l = if 0 < k ∧ (l[k]).toNat = 0 then none else some (acc (l.take k) + 128 ^ k * (l[k]).toNat, l.drop (k + 1)) := by
  have hl : (l.take k).length = k := by rw [List.length_take]; omega
  obtain ⟨f, hf⟩ : ∃ f, 9 = k + (f + 1) := ⟨8 - k, by omega⟩
  have e := dec_split (l.take k) (f + 1) (l.drop k) h.2
  rw [List.take_append_drop, hl, ← hf, List.drop_eq_getElem_cons hk] at e
  rw [dec.eq_3, if_pos hc] at e
  simp only at e
  rw [e]
  have : (l.take k ≠ []) ↔ 0 < k := by
    rw [← List.length_pos_iff, hl]
  by_cases h0 : 0 < k ∧ (l[k]).toNat = 0
  · rw [if_pos h0, if_pos ⟨this.2 h0.1, h0.2⟩]
  · rw [if_neg h0, if_neg (fun hh => h0 ⟨this.1 hh.1, hh.2⟩)]
theorem takeNum_nought {l : List UInt8} {k : Nat} (h : Pre l k) (hk : k < l.length) (h9 : k < 9) (hp : 0 < k) (hc : (l[k]).toNat = 0) : takeNum l = none := by
  unfold takeNum
  rw [dec_at h hk h9 (by omega), if_pos ⟨hp, hc⟩]
theorem takeNum_at {l : List UInt8} {k : Nat} (h : Pre l k) (hk : k < l.length) (h9 : k < 9) (hc : (l[k]).toNat < 128) (hn : ¬ (0 < k ∧ (l[k]).toNat = 0)) :
    takeNum l = if acc (l.take (k + 1)) ≤ mostNum then some (acc (l.take (k + 1)), l.drop (k + 1)) else none := by
  unfold takeNum
  have hl : (l.take k).length = k := by rw [List.length_take]; omega
  rw [dec_at h hk h9 hc, if_neg hn, take_succ' l k hk, acc_snoc, hl, Nat.mod_eq_of_lt hc]
theorem acc_step {l : List UInt8} {k : Nat} (hk : k < l.length) : acc (l.take (k + 1)) = acc (l.take k) + 128 ^ k * ((l[k]).toNat % 128) := by
  have hl : (l.take k).length = k := by rw [List.length_take]; omega
  rw [take_succ' l k hk, acc_snoc, hl]
theorem acc_take_lt (l : List UInt8) (k : Nat) (hk : k ≤ l.length) : acc (l.take k) < 128 ^ k := by
  have := acc_lt (l.take k)
  rwa [List.length_take, Nat.min_eq_left hk] at this

/-- A text's bytes: its length ahead of it. -/
def text (l : List UInt8) : List UInt8 := num l.length ++ l

def takeText (b : List UInt8) (most : Int) : Option (List UInt8 × List UInt8) :=
  match takeNum b with
  | none => none
  | some (n, r) => if (n : Int) ≤ most ∧ n ≤ r.length then some (r.take n, r.drop n) else none

theorem takeText_text (l r : List UInt8) (most : Int) (h : (l.length : Int) ≤ most) (h2 : l.length ≤ mostNum) : takeText (text l ++ r) most = some (l, r) := by
  unfold takeText text
  rw [List.append_assoc, takeNum_num _ _ h2]
  simp [h]

theorem text_takeText {b : List UInt8} {most : Int} {l r : List UInt8} (h : takeText b most = some (l, r)) : b = text l ++ r ∧ (l.length : Int) ≤ most ∧ l.length ≤ mostNum := by
  unfold takeText at h
  cases hd : takeNum b with
  | none => rw [hd] at h; cases h
  | some p =>
    obtain ⟨n, s⟩ := p
    rw [hd] at h
    simp only at h
    by_cases hc : (n : Int) ≤ most ∧ n ≤ s.length
    · rw [if_pos hc] at h
      obtain ⟨rfl, rfl⟩ := Prod.mk.inj (Option.some.inj h)
      obtain ⟨rfl, h2⟩ := num_takeNum hd
      have e : (s.take n).length = n := by rw [List.length_take]; omega
      exact ⟨by rw [text, e, List.append_assoc, List.take_append_drop], by rw [e]; exact hc.1, by rw [e]; exact h2⟩
    · rw [if_neg hc] at h; cases h

/-- What a number counts as. -/
def clampN (n : Int) : Nat := (min (max n 0) 4611686018427387903).toNat
theorem clampN_le (n : Int) : clampN n ≤ mostNum := by unfold clampN mostNum; omega
end Go.Dol

namespace Go.Proofs.YtecpbcmpncgokaaGreat
open Go.RowKit Go.Dol

set_option maxHeartbeats 400000 in
theorem Clone_calls (A : Option Addr) (l : List UInt8) (c : Nat) (w : World) (hr : Rd w w.heap.size 1 A l.length (bc l)) (hl : l.length ≤ 140737488355328) :
    Calls Tryz.prog 93 #[.slice A l.length c] w (RetB 5 w l) := by
  have he := eql_nil
  cases A with
  | none =>
    have h0 := hr.none_zero
    obtain rfl : l = [] := List.eq_nil_of_length_eq_zero h0
    go_enter Tryz.func93, Tryz.ntmps93
    go_wp2
    go_ret
    exact ⟨[], none, 0, rfl, rfl, World.ownsRow_nil _ _ _ _, Below.refl _ _, Nat.le_refl _, by unfold maxLen; omega⟩
  | some a =>
    go_enter Tryz.func93, Tryz.ntmps93
    go_wp2_with (at_builtin; refine app8 rfl (.tmp 5) (.tmp 6) rfl w.heap.size _ 0 [] rfl (own_empty w) w.heap.size (some a) l.length c l rfl (hr.alloc (Nat.le_refl _) _) (by omega) (by simp) ?_)
    intro l' A' c' w' e' h1 hb h2 h3 h4 h5
    go_wp2
    go_ret
    exact ⟨l', A', c', e', rfl, h1, ((Below.refl _ _).alloc (Nat.le_refl _) _).trans hb, h4, h5⟩

theorem Clone_cut (A : Option Addr) (l : List UInt8) (n c : Nat) (w : World) (hn : n = l.length) (hr : Rd w w.heap.size 1 A n (bc l)) (hl : n ≤ 140737488355328) :
    Calls Tryz.prog 93 #[.slice A n c] w (RetB 5 w l) := by
  subst hn
  exact Clone_calls A l c w hr hl

set_option maxHeartbeats 400000 in
theorem laidB_calls (A : Option Addr) (l : List UInt8) (c : Nat) (A2 : Option Addr) (l2 : List UInt8) (c2 : Nat) (w : World) (hr : Rd w w.heap.size 1 A l.length (bc l)) (hr2 : Rd w w.heap.size 1 A2 l2.length (bc l2))
    (hl : l.length + l2.length ≤ 140737488355328) :
    Calls Tryz.prog 238 #[.slice A l.length c, .slice A2 l2.length c2] w (RetB 5 w (l ++ l2)) := by
  go_enter Tryz.func238, Tryz.ntmps238
  go_wp2_with fail
  refine (Clone_calls A l c w hr (by omega)).mono ?_
  rintro e w1 ⟨l1, A1, c1, e1, rfl, h1, hb1, h2, h3⟩
  have hle : l1.length ≤ l.length := by rw [e1.out]; exact Nat.le_refl _
  have hs := hb1.size
  go_wp2_with (at_builtin; refine app8 rfl (.tmp 6) (.tmp 7) rfl w.heap.size _ l1.length l1 rfl h1 w.heap.size A2 l2.length c2 l2 rfl (hr2.below hb1) (by omega) hs ?_)
  intro l' A' c' w' e' g1 hb g2 g3 g4 g5
  go_wp2
  go_ret
  exact ⟨l', A', c', by unfold Hid at e1 e' ⊢; rw [e', e1], rfl, g1, hb1.trans hb, g4, g5⟩

set_option maxHeartbeats 400000 in
theorem laidS_calls (A : Option Addr) (l : List UInt8) (c : Nat) (s : ByteArray) (w : World) (hr : Rd w w.heap.size 1 A l.length (bc l))
    (hl : l.length + s.size ≤ 140737488355328) :
    Calls Tryz.prog 272 #[.slice A l.length c, .string s] w (RetB 5 w (l ++ s.data.toList)) := by
  go_enter Tryz.func272, Tryz.ntmps272
  go_wp2_with fail
  refine (Clone_calls A l c w hr (by omega)).mono ?_
  rintro e w1 ⟨l1, A1, c1, e1, rfl, h1, hb1, h2, h3⟩
  have hle : l1.length ≤ l.length := by rw [e1.out]; exact Nat.le_refl _
  have hs := hb1.size
  go_wp2_with (at_builtin; refine app8s rfl (.tmp 6) (.tmp 7) rfl w.heap.size _ l1.length l1 rfl h1 s rfl (by omega) hs ?_)
  intro l' A' c' w' e' g1 hb g2 g4 g5
  go_wp2
  go_ret
  exact ⟨l', A', c', by unfold Hid at e1 e' ⊢; rw [e', e1], rfl, g1, hb1.trans hb, g4, g5⟩

/-- The loop of PutNum: the groups that are laid, and the number that is left. -/
def PutRel (N : Nat) (w : World) (n v : Value) (wr : World) : Prop :=
  ∃ (m : Nat) (l : List UInt8) (A : Option Addr) (c : Nat), n = .int .i64 m ∧ v = .slice A l.length c ∧ wr.ownsRow w.heap.size 5 1 (.slice A l.length c) l.length (bc l) ∧ Hid (l ++ num m = num N) ∧ Below w.heap.size w wr ∧ m ≤ N

/-- What a number counts as, as the code reckons it. -/
theorem clamp_runs (n : Int) : ∃ M : Int, (∀ w : World, (Builtin.max_ #[3, 3] 3 #[.int .i64 n, .int .i64 0]).run Tryz.prog w = .ok (.int .i64 M) w) ∧
    (∀ w : World, (Builtin.min_ #[3, 3] 3 #[.int .i64 M, .int .i64 4611686018427387903]).run Tryz.prog w = .ok (.int .i64 (clampN n : Nat)) w) := by
  refine ⟨if 0 > n then 0 else n, fun w => run_max_int2 _ _ _ _ _ _ _, fun w => ?_⟩
  rw [run_min_int2]
  congr 2
  unfold clampN
  split <;> split <;> omega

set_option maxRecDepth 100000 in
set_option maxHeartbeats 400000 in
theorem PutNum_calls (A : Option Addr) (l : List UInt8) (c : Nat) (n : Int) (w : World) (hr : Rd w w.heap.size 1 A l.length (bc l)) (hl : l.length + 9 ≤ 140737488355328) :
    Calls Tryz.prog 167 #[.slice A l.length c, .int .i64 n] w (RetB 5 w (l ++ num (clampN n))) := by
  obtain ⟨M, hM1, hM2⟩ := clamp_runs n
  obtain ⟨N, hNe⟩ : ∃ N, N = clampN n := ⟨_, rfl⟩
  have HN : Hid (N ≤ mostNum) := by rw [hNe]; exact clampN_le n
  rw [← hNe] at hM2 ⊢
  clear hNe
  go_enter Tryz.func167, Tryz.ntmps167
  go_wp2_with fail
  clear hM1 hM2
  go_loopw [1, 5] (fun n' v wr => PutRel N w n' v wr) (fun n' _ _ => (intOf n').toNat)
  case atStart => exact ⟨N, [], none, 0, rfl, rfl, World.ownsRow_nil _ _ _ _, rfl, Below.refl _ _, Nat.le_refl _⟩
  case round =>
    obtain ⟨m, l1, A1, c1, rfl, rfl, h1, h2, h3, h4⟩ := hrel
    have hle : l1.length + (num m).length ≤ 9 := by
      have e1 : (l1 ++ num m).length = (num N).length := by rw [h2.out]
      have e2 := num_length_le 8 N (by have := HN.out; unfold mostNum at this; omega)
      rw [List.length_append] at e1
      omega
    have hnp := num_pos m
    have hle1 : l1.length ≤ 8 := by omega
    clear hle hnp
    have hs := h3.size
    by_cases hm : 128 ≤ m
    · have hmi : (128 : Int) ≤ m := by omega
      have hk := u8_or_128 m
      have hk0 : 0 ≤ bits .or .u8 ((m : Int) % 256) 128 := by omega
      have hk1 : bits .or .u8 ((m : Int) % 256) 128 < 256 := by omega
      have Hk := Lib.hid hk
      clear hk
      go_wp2_with (at_builtin; refine push8 rfl (.tmp 13) (.tmp 17) rfl w.heap.size _ l1.length l1 rfl h1 rfl hk0 hk1 (by omega) (by omega) ?_)
      intro d l' A' c' w' hd e' g1 gb g2 g3 g4 g5
      clear hk0 hk1
      go_wp2_with fail
      refine ⟨⟨m / 128, l', A', c', by go_num, rfl, g1, ?_, h3.trans gb, by omega⟩, by simp [intOf]; omega⟩
      have hd' := byte_of hd Hk.out
      unfold Hid at *
      rw [e', hd', ← h2, num_ge hm]
      simp
    · have hmi : (m : Int) < 128 := by omega
      go_wp2_with (at_builtin; refine push8 rfl (.tmp 20) (.tmp 23) rfl w.heap.size _ l1.length l1 rfl h1 rfl (by omega) (by omega) (by omega) (by omega) ?_)
      intro d l' A' c' w' hd e' g1 gb g2 g3 g4 g5
      have hb := h3.trans gb
      have hs' := hb.size
      have hle' : l'.length ≤ 9 := by rw [e'.out, List.length_append]; simp; omega
      go_wp2_with fail
      refine (laidB_calls A l c A' l' c' w' (hr.belowW hb (Nat.le_refl _) |>.more hs') (Rd.of_own g1) (by omega)).mono ?_
      rintro e w2 ⟨l2, A2, c2, e2, rfl, p1, pb, p2, p3⟩
      go_wp2_with fail
      go_ret
      refine ⟨l2, A2, c2, ?_, rfl, p1.base hs', hb.trans (pb.mono hs'), p2, p3⟩
      have hd' := byte_of (n := m) hd (by omega)
      unfold Hid at *
      rw [e2, e', hd', ← h2, num_lt (by omega)]
end Go.Proofs.YtecpbcmpncgokaaGreat

namespace Go.Proofs.YtecpbcmpncgokaaGreat
open Go.RowKit Go.Dol

theorem clampN_nat {k : Nat} (h : k ≤ mostNum) : clampN (k : Int) = k := by unfold clampN; unfold mostNum at h; omega

set_option maxHeartbeats 400000 in
theorem PutText_calls (A : Option Addr) (l : List UInt8) (c : Nat) (s : ByteArray) (w : World) (hr : Rd w w.heap.size 1 A l.length (bc l)) (hl : l.length + 9 + s.size ≤ 140737488355328) :
    Calls Tryz.prog 253 #[.slice A l.length c, .string s] w (RetB 5 w (l ++ text s.data.toList)) := by
  have es : s.data.toList.length = s.size := by rw [Array.length_toList]; rfl
  have hm : s.size ≤ mostNum := by unfold mostNum; omega
  have Hc := Lib.hid (clampN_nat hm)
  have Hm := Lib.hid hm
  have Es := Lib.hid es
  clear hm es
  go_enter Tryz.func253, Tryz.ntmps253
  go_wp2_with fail
  refine (PutNum_calls A l c s.size w hr (by omega)).mono ?_
  rintro e w1 ⟨l1, A1, c1, e1, rfl, h1, hb1, h2, h3⟩
  have hle : l1.length ≤ l.length + 9 := by
    have e2 := num_length_le 8 s.size (by have := Hm.out; unfold mostNum at this; omega)
    rw [e1.out, List.length_append, Hc.out]
    omega
  have hs := hb1.size
  go_wp2_with fail
  refine (laidS_calls A1 l1 c1 s w1 (Rd.of_own h1) (by omega)).mono ?_
  rintro e w2 ⟨l2, A2, c2, e2, rfl, p1, pb, p2, p3⟩
  go_wp2_with fail
  go_ret
  refine ⟨l2, A2, c2, ?_, rfl, p1.base hs, hb1.trans (pb.mono hs), p2, p3⟩
  unfold Hid at *
  rw [e2, e1, Hc, text, Es, List.append_assoc]

end Go.Proofs.YtecpbcmpncgokaaGreat

namespace Go.Proofs.YtecpbcmpncgokaaGreat
open Go.RowKit Go.Dol

end Go.Proofs.YtecpbcmpncgokaaGreat

namespace Go.Proofs.YtecpbcmpncgokaaGreat
open Go.RowKit Go.Dol

/-- The loop of TakeNum at its head: k groups have gone by, none was the last. -/
def TakeRel (l : List UInt8) (n used i : Value) : Prop :=
  ∃ k m : Nat, n = .int .u64 m ∧ used = .int .i64 0 ∧ i = .int .i64 k ∧ Pre l k ∧ k ≤ 9 ∧ Hid (m = acc (l.take k))

set_option maxRecDepth 100000 in
set_option maxHeartbeats 400000 in
theorem TakeNum_calls (A : Option Addr) (l : List UInt8) (c : Nat) (w : World) (hr : Rd w w.heap.size 1 A l.length (bc l)) (hl : l.length ≤ 140737488355328) (hc : l.length ≤ c) :
    Calls Tryz.prog 209 #[.slice A l.length c] w (RetTake 5 w (takeNum l)) := by
  go_enter Tryz.func209, Tryz.ntmps209
  go_wp2_with fail
  go_step3
  go_wp2_with fail
  go_step3
  go_wp2_with fail
  go_loop [5, 6, 11] (fun n used i => TakeRel l n used i) (fun _ _ i => 9 - (intOf i).toNat)
  case atStart => exact ⟨0, 0, rfl, rfl, rfl, Pre.zero l, by omega, by simp [Hid, acc]⟩
  case round =>
    obtain ⟨k, m, rfl, rfl, rfl, hp, hk9, hm⟩ := hrel
    have hkl := hp.1
    have HP := Lib.hid hp
    clear hp
    by_cases hlt : k < l.length
    · obtain ⟨b, off, rfl, hb, hcell⟩ := hr.at_ (by omega)
      have hcx := hcell k _ (bc_get l k hlt)
      obtain ⟨x, hx⟩ : ∃ x, x = (l[k]).toNat := ⟨_, rfl⟩
      have hx256 : x < 256 := by have := (l[k]).toNat_lt; omega
      rw [← hx] at hcx
      have HX := Lib.hid hx
      clear hx hcell
      by_cases h9 : k = 9
      · subst h9
        go_wp2_with fail
        go_ret3
        rw [takeNum_long HP.out]
        exact ⟨rfl, Below.refl _ _⟩
      · have hk8 : k < 9 := by omega
        clear h9 hk9
        by_cases hx128 : x < 128
        · by_cases hxk : x = 0 ∧ 0 < k
          · obtain ⟨hx0, hk0⟩ := hxk
            have HX0 := Lib.hid hx0
            have hxi : (x : Int) < 1 := by omega
            have hki : (0 : Int) < k := by omega
            clear hx0
            go_wp2_with fail
            go_ret3
            rw [takeNum_nought HP.out hlt hk8 hk0 (by rw [← HX.out]; exact HX0.out)]
            exact ⟨rfl, Below.refl _ _⟩
          · have hax : bits .and .u8 (x : Int) 127 = (x : Int) := by rw [u8_and127 x hx256, Nat.mod_eq_of_lt hx128]
            obtain ⟨z, m', hz1, hz2, hz3⟩ := u64_group m x k hk8 (by rw [hm.out]; exact acc_take_lt l k hkl) hx128
            have hm' : m' = acc (l.take (k + 1)) := by rw [acc_step hlt, hz3, hm.out, ← HX.out, Nat.mod_eq_of_lt hx128]
            have HT : Hid (takeNum l = if m' ≤ mostNum then some (m', l.drop (k + 1)) else none) := by
              have := takeNum_at HP.out hlt hk8 (by rw [← HX.out]; exact hx128) (by rw [← HX.out]; omega)
              rwa [← hm'] at this
            clear hz3 hm'
            have hxc : x = 0 ∧ k = 0 ∨ 1 ≤ x := by omega
            clear hxk
            rcases hxc with ⟨hx0, hk0⟩ | hx1
            · have hxi : (x : Int) < 1 := by omega
              have hki : (k : Int) < 1 := by omega
              have hk1 : ((k : Int) + 1 == 0) = false := beq_eq_false_iff_ne.2 (by omega)
              have hax0 : bits .and .u8 0 127 = 0 := by decide
              have hz20 : bits .or .u64 (m : Int) 0 = (m' : Int) := by
                rw [hx0] at hz1
                have h0 : (0 : Int) = z := by rw [← hz1]; simp [IntKind.wrap_u64]
                rw [← hz2, ← h0]
              clear hx0 hk0 hax hz1 hz2
              by_cases hmm : m' ≤ mostNum
              · have hmi : decide ((4611686018427387903 : Int) < m') = false := by unfold mostNum at hmm; simp; omega
                have hmj : (m' : Int) ≤ 4611686018427387903 := by unfold mostNum at hmm; omega
                have ht := hr.tail (k := k + 1) hlt hc
                have HT2 : Hid (takeNum l = some (m', l.drop (k + 1))) := by have := HT.out; rwa [if_pos hmm] at this
                clear hmm HT
                by_cases hcap : c = k + 1
                · rw [if_pos hcap] at ht
                  have HC := Lib.hid hcap
                  go_wp2_with fail
                  refine (Clone_cut _ (l.drop (k + 1)) _ _ w (by simp) ht (by omega)).mono ?_
                  rintro e w1 ⟨l1, A1, c1, e1, rfl, h1, hb1, h2, h3⟩
                  go_wp2_with fail
                  go_ret3
                  rw [HT2.out]
                  exact ⟨l1, A1, c1, e1, rfl, h1, hb1, h2, h3⟩
                · rw [if_neg hcap] at ht
                  have ht' : Rd w w.heap.size 1 (some ⟨b, off + (k + 1), none⟩) (l.length - (k + 1)) (bc (l.drop (k + 1))) := by simpa [Addr.add_lit] using ht
                  clear ht
                  go_wp2_with fail
                  refine (Clone_cut _ (l.drop (k + 1)) _ _ w (by simp) ht' (by omega)).mono ?_
                  rintro e w1 ⟨l1, A1, c1, e1, rfl, h1, hb1, h2, h3⟩
                  go_wp2_with fail
                  go_ret3
                  rw [HT2.out]
                  exact ⟨l1, A1, c1, e1, rfl, h1, hb1, h2, h3⟩
              · have hmi : decide ((4611686018427387903 : Int) < m') = true := by unfold mostNum at hmm; simp; omega
                have HT2 : Hid (takeNum l = none) := by have := HT.out; rwa [if_neg hmm] at this
                clear hmm HT
                go_wp2_with fail
                go_ret3
                rw [HT2.out]
                exact ⟨rfl, Below.refl _ _⟩
            · have hxi : (1 : Int) ≤ x := by omega
              have hxj : (x : Int) < 128 := by omega
              have hk1 : ((k : Int) + 1 == 0) = false := beq_eq_false_iff_ne.2 (by omega)
              clear hx1
              by_cases hmm : m' ≤ mostNum
              · have hmi : decide ((4611686018427387903 : Int) < m') = false := by unfold mostNum at hmm; simp; omega
                have hmj : (m' : Int) ≤ 4611686018427387903 := by unfold mostNum at hmm; omega
                have ht := hr.tail (k := k + 1) hlt hc
                have HT2 : Hid (takeNum l = some (m', l.drop (k + 1))) := by have := HT.out; rwa [if_pos hmm] at this
                clear hmm HT
                by_cases hcap : c = k + 1
                · rw [if_pos hcap] at ht
                  have HC := Lib.hid hcap
                  go_wp2_with fail
                  refine (Clone_cut _ (l.drop (k + 1)) _ _ w (by simp) ht (by omega)).mono ?_
                  rintro e w1 ⟨l1, A1, c1, e1, rfl, h1, hb1, h2, h3⟩
                  go_wp2_with fail
                  go_ret3
                  rw [HT2.out]
                  exact ⟨l1, A1, c1, e1, rfl, h1, hb1, h2, h3⟩
                · rw [if_neg hcap] at ht
                  have ht' : Rd w w.heap.size 1 (some ⟨b, off + (k + 1), none⟩) (l.length - (k + 1)) (bc (l.drop (k + 1))) := by simpa [Addr.add_lit] using ht
                  clear ht
                  go_wp2_with fail
                  refine (Clone_cut _ (l.drop (k + 1)) _ _ w (by simp) ht' (by omega)).mono ?_
                  rintro e w1 ⟨l1, A1, c1, e1, rfl, h1, hb1, h2, h3⟩
                  go_wp2_with fail
                  go_ret3
                  rw [HT2.out]
                  exact ⟨l1, A1, c1, e1, rfl, h1, hb1, h2, h3⟩
              · have hmi : decide ((4611686018427387903 : Int) < m') = true := by unfold mostNum at hmm; simp; omega
                have HT2 : Hid (takeNum l = none) := by have := HT.out; rwa [if_neg hmm] at this
                clear hmm HT
                go_wp2_with fail
                go_ret3
                rw [HT2.out]
                exact ⟨rfl, Below.refl _ _⟩
        · have hax : bits .and .u8 (x : Int) 127 = ((x % 128 : Nat) : Int) := u8_and127 x hx256
          obtain ⟨y, hy⟩ : ∃ y, y = x % 128 := ⟨_, rfl⟩
          have hy128 : y < 128 := by omega
          rw [← hy] at hax
          have HY := Lib.hid hy
          clear hy
          obtain ⟨z, m', hz1, hz2, hz3⟩ := u64_group m y k hk8 (by rw [hm.out]; exact acc_take_lt l k hkl) hy128
          have hm' : Hid (m' = acc (l.take (k + 1))) := by unfold Hid; rw [acc_step hlt, hz3, hm.out, ← HX.out, ← HY.out]
          clear hz3
          have hxi : (128 : Int) ≤ x := by omega
          have HP' : Hid (Pre l (k + 1)) := HP.out.succ hlt (by rw [← HX.out]; omega)
          go_wp2_with fail
          exact ⟨⟨k + 1, m', rfl, rfl, by go_num, HP'.out, by omega, hm'⟩, by simp [intOf]; omega⟩
    · have hkk : k = l.length := by omega
      have HK := Lib.hid hkk
      clear hkk
      go_wp2_with fail
      go_ret3
      rw [takeNum_end (by have := HP.out; rwa [HK.out] at this)]
      exact ⟨rfl, Below.refl _ _⟩
end Go.Proofs.YtecpbcmpncgokaaGreat

namespace Go.Proofs.YtecpbcmpncgokaaGreat
open Go.RowKit Go.Dol

end Go.Proofs.YtecpbcmpncgokaaGreat

namespace Go.Proofs.YtecpbcmpncgokaaGreat
open Go.RowKit Go.Dol

end Go.Proofs.YtecpbcmpncgokaaGreat

namespace Go.Proofs.YtecpbcmpncgokaaGreat
open Go.RowKit Go.Dol
set_option linter.unusedVariables false

end Go.Proofs.YtecpbcmpncgokaaGreat

namespace Go.Proofs.YtecpbcmpncgokaaGreat
open Go.RowKit Go.Dol
set_option linter.unusedVariables false

/-- What taking a text hands back; what is left lies in a row that the call made. -/
def RetTextF (w : World) (r : Option (List UInt8 × List UInt8)) (e : Ending) (w' : World) : Prop :=
  match r with
  | none => e = .returned (.tuple #[.string ⟨#[]⟩, .slice none 0 0, .int .i64 2]) ∧ Below w.heap.size w w'
  | some (s, q) => ∃ (q' : List UInt8) (A : Option Addr) (c : Nat), Hid (q' = q) ∧ e = .returned (.tuple #[.string ⟨s.toArray⟩, .slice A q'.length c, .int .i64 0]) ∧ Seg w' w.heap.size 5 1 A q'.length c (bc q') ∧ Below w.heap.size w w'

set_option maxRecDepth 100000 in
set_option maxHeartbeats 400000 in
theorem TakeText_far (A : Option Addr) (l : List UInt8) (c : Nat) (most : Int) (w : World) (hr : Rd w w.heap.size 1 A l.length (bc l)) (hl : l.length ≤ 140737488355328) (hc : l.length ≤ c) :
    Calls Tryz.prog 255 #[.slice A l.length c, .int .i64 most] w (RetTextF w (takeText l most)) := by
  cases ht : takeNum l with
  | none =>
    have HE : Hid (takeText l most = none) := by unfold Hid takeText; rw [ht]
    have HT := Lib.hid ht
    clear ht
    go_enter Tryz.func255, Tryz.ntmps255
    go_wp2_with fail
    refine (TakeNum_calls A l c w hr hl hc).mono ?_
    intro e w1 h1
    rw [HT.out] at h1
    obtain ⟨rfl, hb1⟩ := h1
    go_wp2_with fail
    go_ret3
    rw [HE.out]
    exact ⟨rfl, hb1⟩
  | some p =>
    obtain ⟨n, q⟩ := p
    have hn := (num_takeNum ht).2
    unfold mostNum at hn
    have hni : (n : Int) ≤ 4611686018427387903 := by omega
    have HE : Hid (takeText l most = if (n : Int) ≤ most ∧ n ≤ q.length then some (q.take n, q.drop n) else none) := by unfold Hid takeText; rw [ht]
    have HT := Lib.hid ht
    clear ht hn
    have hcase : most < (n : Int) ∨ ((n : Int) ≤ most ∧ q.length < n) ∨ ((n : Int) ≤ most ∧ n ≤ q.length) := by omega
    rcases hcase with h0 | ⟨h0, h00⟩ | ⟨h0, h00⟩
    · have HE2 : Hid (takeText l most = none) := by have := HE.out; rwa [if_neg (by omega)] at this
      clear HE
      have hd : decide (most < (n : Int)) = true := by simpa using h0
      go_enter Tryz.func255, Tryz.ntmps255
      go_wp2_with fail
      refine (TakeNum_calls A l c w hr hl hc).mono ?_
      intro e w1 h1
      rw [HT.out] at h1
      obtain ⟨q1, A1, c1, e1, rfl, h1, hb1, h2, h3⟩ := h1
      go_wp2_with fail
      go_ret3
      rw [HE2.out]
      exact ⟨rfl, hb1⟩
    · have HE2 : Hid (takeText l most = none) := by have := HE.out; rwa [if_neg (by omega)] at this
      clear HE
      have hd : decide (most < (n : Int)) = false := by simpa using h0
      go_enter Tryz.func255, Tryz.ntmps255
      go_wp2_with fail
      refine (TakeNum_calls A l c w hr hl hc).mono ?_
      intro e w1 h1
      rw [HT.out] at h1
      obtain ⟨q1, A1, c1, e1, rfl, h1, hb1, h2, h3⟩ := h1
      have hd2 : decide (q1.length < n) = true := by rw [e1.out]; simpa using h00
      have hd3 : decide ((q1.length : Int) < (n : Int)) = true := by rw [e1.out]; simpa using h00
      go_wp2_with fail
      go_ret3
      rw [HE2.out]
      exact ⟨rfl, hb1⟩
    · have HE2 : Hid (takeText l most = some (q.take n, q.drop n)) := by have := HE.out; rwa [if_pos ⟨h0, h00⟩] at this
      clear HE
      have hd : decide (most < (n : Int)) = false := by simpa using h0
      go_enter Tryz.func255, Tryz.ntmps255
      go_wp2_with fail
      refine (TakeNum_calls A l c w hr hl hc).mono ?_
      intro e w1 h1
      rw [HT.out] at h1
      obtain ⟨q1, A1, c1, e1, rfl, h1, hb1, h2, h3⟩ := h1
      have hnq : n ≤ q1.length := by rw [e1.out]; exact h00
      have hd2 : decide (q1.length < n) = false := by simpa using hnq
      have hd3 : decide ((q1.length : Int) < (n : Int)) = false := by simpa using hnq
      have hr1 := Rd.of_own h1
      have ht := ((Seg.of_own h1).tail8 hnq)
      have hcv1 : ∀ k, (convert 36 9 (.slice A1 n c1)).run Tryz.prog (w1.drewN k) = .ok (.string ⟨(q1.take n).toArray⟩) (w1.drewN k) := fun k => run_conv_bs _ _ _ _ Tryz.underlying36 Tryz.underlying5 Tryz.underlying9 _ A1 n c1 (q1.take n) ((hr1.head hnq).drewN k)
      have hcv2 : (convert 36 9 (.slice A1 n c1)).run Tryz.prog w1.drew = .ok (.string ⟨(q1.take n).toArray⟩) w1.drew := run_conv_bs _ _ _ _ Tryz.underlying36 Tryz.underlying5 Tryz.underlying9 _ A1 n c1 (q1.take n) (hr1.head hnq).drew
      have hnc : n ≤ c1 := by omega
      by_cases hcap : c1 = n
      · clear ht
        subst hcap
        go_wp2_with fail
        go_quiet (fail)
        go_wp2_with fail
        go_ret3
        rw [HE2.out]
        cases e1.out
        exact ⟨[], A1, 0, (List.drop_eq_nil_of_le (by omega)).symm, rfl, Seg.nil, Below.drewN' hb1 _⟩
      · rw [if_neg hcap] at ht
        go_wp2_with fail
        go_quiet (fail)
        go_wp2_with fail
        go_ret3
        rw [HE2.out]
        cases e1.out
        exact ⟨q.drop _, _, _, rfl, by rw [List.length_drop]; rfl, by rw [List.length_drop]; exact ht.drewN _, Below.drewN' hb1 _⟩

end Go.Proofs.YtecpbcmpncgokaaGreat
