/- Numbers as bytes, in plain Lean: what the layer 'code' computes, and that what was put is taken as it was and that no other bytes say the same. No program is in sight. Conditions: none beyond what each lemma names. -/
namespace Go.Dol

/-- n in groups of 7 bits, the lowest first. -/
def num (n : Nat) : List UInt8 := if n < 128 then [UInt8.ofNat n] else UInt8.ofNat (128 + n % 128) :: num (n / 128)
termination_by n
decreasing_by omega

theorem num_lt {n : Nat} (h : n < 128) : num n = [UInt8.ofNat n] := by rw [num, if_pos h]
theorem num_ge {n : Nat} (h : 128 ≤ n) : num n = UInt8.ofNat (128 + n % 128) :: num (n / 128) := by rw [num, if_neg (by omega)]

theorem num_pos (n : Nat) : 0 < (num n).length := by
  rw [num]
  split <;> simp

/-- As few groups as there can be. -/
theorem num_length_le : ∀ (k n : Nat), n < 128 ^ (k + 1) → (num n).length ≤ k + 1
  | 0, n, h => by
    rw [num_lt (by simpa using h)]
    simp
  | k + 1, n, h => by
    by_cases hn : n < 128
    · rw [num_lt hn]
      simp
    · rw [num_ge (by omega), List.length_cons]
      have h1 : n / 128 < 128 ^ (k + 1) := by
        rw [Nat.div_lt_iff_lt_mul (by omega)]
        rw [Nat.pow_succ] at h
        exact h
      have := num_length_le k (n / 128) h1
      omega

/-- The number with which bytes begin, of at most so many groups; a group of nought at the end, behind others, is none. -/
def dec : Nat → List UInt8 → Option (Nat × List UInt8)
  | 0, _ => none
  | _ + 1, [] => none
  | f + 1, c :: r => if c.toNat < 128 then some (c.toNat, r) else
      match dec f r with
      | none => none
      | some (m, q) => if m = 0 then none else some (c.toNat % 128 + 128 * m, q)

def mostNum : Nat := 4611686018427387903

/-- The number with which bytes begin, and the bytes behind it. -/
def takeNum (b : List UInt8) : Option (Nat × List UInt8) :=
  match dec 9 b with
  | none => none
  | some (n, r) => if n ≤ mostNum then some (n, r) else none

theorem dec_num (f : Nat) : ∀ (n : Nat) (r : List UInt8), n < 128 ^ (f + 1) → dec (f + 1) (num n ++ r) = some (n, r) := by
  induction f with
  | zero =>
    intro n r h
    have hn : n < 128 := by simpa using h
    rw [num_lt hn]
    simp [dec, hn, Nat.mod_eq_of_lt (show n < 256 by omega)]
  | succ g ih =>
    intro n r h
    by_cases hn : n < 128
    · rw [num_lt hn]
      simp [dec, hn, Nat.mod_eq_of_lt (show n < 256 by omega)]
    · rw [num_ge (by omega)]
      have h1 : n / 128 < 128 ^ (g + 1) := by
        rw [Nat.div_lt_iff_lt_mul (by omega)]
        rw [Nat.pow_succ] at h
        exact h
      have hc : (UInt8.ofNat (128 + n % 128)).toNat = 128 + n % 128 := by rw [UInt8.toNat_ofNat']; omega
      rw [List.cons_append, dec, hc, ih (n / 128) r h1]
      simp only
      rw [if_neg (by omega), if_neg (by omega)]
      congr 2
      omega

theorem num_dec : ∀ (f : Nat) (b : List UInt8) (n : Nat) (r : List UInt8), dec f b = some (n, r) → b = num n ++ r ∧ n < 128 ^ f
  | 0, b, n, r, h => by simp [dec] at h
  | f + 1, [], n, r, h => by simp [dec] at h
  | f + 1, c :: q, n, r, h => by
    simp only [dec] at h
    have hp : 0 < 128 ^ f := Nat.pow_pos (by omega)
    by_cases hc : c.toNat < 128
    · rw [if_pos hc] at h
      obtain ⟨rfl, rfl⟩ := Prod.mk.inj (Option.some.inj h)
      refine ⟨by rw [num_lt hc]; simp, ?_⟩
      rw [Nat.pow_succ]
      omega
    · rw [if_neg hc] at h
      cases hd : dec f q with
      | none => rw [hd] at h; cases h
      | some p =>
        obtain ⟨m, s⟩ := p
        rw [hd] at h
        simp only at h
        by_cases hm : m = 0
        · rw [if_pos hm] at h; cases h
        · rw [if_neg hm] at h
          obtain ⟨rfl, rfl⟩ := Prod.mk.inj (Option.some.inj h)
          obtain ⟨rfl, h2⟩ := num_dec f q m s hd
          have hc2 := c.toNat_lt
          refine ⟨?_, by rw [Nat.pow_succ]; omega⟩
          have e1 : 128 + (c.toNat % 128 + 128 * m) % 128 = c.toNat := by omega
          have e2 : (c.toNat % 128 + 128 * m) / 128 = m := by omega
          rw [num_ge (show 128 ≤ c.toNat % 128 + 128 * m by omega), e1, e2]
          simp

theorem takeNum_num (n : Nat) (r : List UInt8) (h : n ≤ mostNum) : takeNum (num n ++ r) = some (n, r) := by
  have h9 : n < 128 ^ 9 := by unfold mostNum at h; omega
  rw [takeNum, dec_num 8 n r h9]
  simp [h]

theorem num_takeNum {b : List UInt8} {n : Nat} {r : List UInt8} (h : takeNum b = some (n, r)) : b = num n ++ r ∧ n ≤ mostNum := by
  unfold takeNum at h
  cases hd : dec 9 b with
  | none => rw [hd] at h; cases h
  | some p =>
    obtain ⟨m, s⟩ := p
    rw [hd] at h
    simp only at h
    by_cases hm : m ≤ mostNum
    · rw [if_pos hm] at h
      obtain ⟨rfl, rfl⟩ := Prod.mk.inj (Option.some.inj h)
      exact ⟨(num_dec 9 b _ _ hd).1, hm⟩
    · rw [if_neg hm] at h; cases h

/-- So much of it has a loop that has gone over the first k groups, none of which was the last. -/
def acc (l : List UInt8) : Nat := l.foldr (fun c m => c.toNat % 128 + 128 * m) 0

theorem acc_snoc (l : List UInt8) (c : UInt8) : acc (l ++ [c]) = acc l + 128 ^ l.length * (c.toNat % 128) := by
  induction l with
  | nil => simp [acc]
  | cons x l ih =>
    have e1 : acc (x :: l ++ [c]) = x.toNat % 128 + 128 * acc (l ++ [c]) := rfl
    have e2 : acc (x :: l) = x.toNat % 128 + 128 * acc l := rfl
    rw [e1, e2, ih, List.length_cons, Nat.pow_succ, Nat.mul_add, Nat.add_assoc, Nat.mul_comm (128 ^ l.length) 128, Nat.mul_assoc]

theorem acc_lt (l : List UInt8) : acc l < 128 ^ l.length := by
  induction l with
  | nil => simp [acc]
  | cons x l ih =>
    have e2 : acc (x :: l) = x.toNat % 128 + 128 * acc l := rfl
    rw [e2, List.length_cons, Nat.pow_succ]
    omega

/-- Behind groups that go on: what is left decides. -/
theorem dec_split : ∀ (l : List UInt8) (f : Nat) (r : List UInt8), (∀ c ∈ l, 128 ≤ c.toNat) →
    dec (l.length + f) (l ++ r) = match dec f r with
      | none => none
      | some (m, q) => if l ≠ [] ∧ m = 0 then none else some (acc l + 128 ^ l.length * m, q)
  | [], f, r, _ => by
    have e : ([] : List UInt8).length + f = f := by simp
    rw [e, List.nil_append]
    cases dec f r with
    | none => rfl
    | some p => simp [acc]
  | x :: l, f, r, h => by
    have e : (x :: l).length + f = (l.length + f) + 1 := by simp [List.length_cons]; omega
    have hx : ¬ x.toNat < 128 := by have := h x (by simp); omega
    rw [e, List.cons_append]
    simp only [dec]
    rw [if_neg hx, dec_split l f r (fun c hc => h c (by simp [hc]))]
    cases dec f r with
    | none => rfl
    | some p =>
      obtain ⟨m, q⟩ := p
      have e2 : acc (x :: l) = x.toNat % 128 + 128 * acc l := rfl
      have hp : 0 < 128 ^ l.length := Nat.pow_pos (by omega)
      by_cases hm : m = 0
      · subst hm
        by_cases hl : l = []
        · subst hl
          simp [acc]
        · simp [hl]
      · have hne : ¬ (acc l + 128 ^ l.length * m = 0) := by
          have : 0 < 128 ^ l.length * m := Nat.mul_pos hp (by omega)
          omega
        simp only [hm, and_false, if_false, hne]
        simp only [e2, List.length_cons, Nat.pow_succ, Nat.mul_add]
        congr 2
        rw [Nat.mul_comm (128 ^ l.length) 128, Nat.mul_assoc]
        omega

theorem dec_short : ∀ (f : Nat) (l : List UInt8), (∀ c ∈ l, 128 ≤ c.toNat) → dec f l = none
  | 0, l, _ => by cases l <;> rfl
  | f + 1, [], _ => rfl
  | f + 1, x :: l, h => by
    have hx : ¬ x.toNat < 128 := by have := h x (by simp); omega
    simp only [dec]
    rw [if_neg hx, dec_short f l (fun c hc => h c (by simp [hc]))]

theorem dec_long (l r : List UInt8) (f : Nat) (hl : f ≤ l.length) (h : ∀ c ∈ l, 128 ≤ c.toNat) : dec f (l ++ r) = none := by
  induction l generalizing f with
  | nil =>
    obtain rfl : f = 0 := by simpa using hl
    cases r <;> rfl
  | cons x l ih =>
    cases f with
    | zero => rfl
    | succ f =>
      have hx : ¬ x.toNat < 128 := by have := h x (by simp); omega
      simp only [List.cons_append, dec]
      rw [if_neg hx, ih f (by simpa using hl) (fun c hc => h c (by simp [hc]))]

/-- The first k groups all go on. -/
def Pre (l : List UInt8) (k : Nat) : Prop := k ≤ l.length ∧ ∀ c ∈ l.take k, 128 ≤ c.toNat
theorem Pre.zero (l : List UInt8) : Pre l 0 := ⟨Nat.zero_le _, by simp⟩
theorem take_succ' (l : List UInt8) (k : Nat) (h : k < l.length) : l.take (k + 1) = l.take k ++ [l[k]] := by rw [List.take_succ_eq_append_getElem h]
theorem Pre.succ {l : List UInt8} {k : Nat} (h : Pre l k) (hk : k < l.length) (hc : 128 ≤ (l[k]).toNat) : Pre l (k + 1) :=
  ⟨hk, fun c hc' => by
    rw [take_succ' l k hk, List.mem_append] at hc'
    rcases hc' with hc' | hc'
    · exact h.2 c hc'
    · rw [List.mem_singleton.1 hc']; exact hc⟩
theorem takeNum_long {l : List UInt8} (h : Pre l 9) : takeNum l = none := by
  have e := dec_long (l.take 9) (l.drop 9) 9 (by rw [List.length_take]; have := h.1; omega) h.2
  rw [List.take_append_drop] at e
  unfold takeNum
  rw [e]
theorem takeNum_end {l : List UInt8} (h : Pre l l.length) : takeNum l = none := by
  have e := dec_short 9 l (by have := h.2; rwa [List.take_length] at this)
  unfold takeNum
  rw [e]
theorem dec_at {l : List UInt8} {k : Nat} (h : Pre l k) (hk : k < l.length) (h9 : k < 9) (hc : (l[k]).toNat < 128) :
    dec 9 l = if 0 < k ∧ (l[k]).toNat = 0 then none else some (acc (l.take k) + 128 ^ k * (l[k]).toNat, l.drop (k + 1)) := by
  have hl : (l.take k).length = k := by rw [List.length_take]; omega
  obtain ⟨f, hf⟩ : ∃ f, 9 = k + (f + 1) := ⟨8 - k, by omega⟩
  have e := dec_split (l.take k) (f + 1) (l.drop k) h.2
  rw [List.take_append_drop, hl, ← hf, List.drop_eq_getElem_cons hk] at e
  rw [dec.eq_3, if_pos hc] at e
  simp only at e
  rw [e]
  have : (l.take k ≠ []) ↔ 0 < k := by
    rw [← List.length_pos_iff, hl]
  by_cases h0 : 0 < k ∧ (l[k]).toNat = 0
  · rw [if_pos h0, if_pos ⟨this.2 h0.1, h0.2⟩]
  · rw [if_neg h0, if_neg (fun hh => h0 ⟨this.1 hh.1, hh.2⟩)]
theorem takeNum_nought {l : List UInt8} {k : Nat} (h : Pre l k) (hk : k < l.length) (h9 : k < 9) (hp : 0 < k) (hc : (l[k]).toNat = 0) : takeNum l = none := by
  unfold takeNum
  rw [dec_at h hk h9 (by omega), if_pos ⟨hp, hc⟩]
theorem takeNum_at {l : List UInt8} {k : Nat} (h : Pre l k) (hk : k < l.length) (h9 : k < 9) (hc : (l[k]).toNat < 128) (hn : ¬ (0 < k ∧ (l[k]).toNat = 0)) :
    takeNum l = if acc (l.take (k + 1)) ≤ mostNum then some (acc (l.take (k + 1)), l.drop (k + 1)) else none := by
  unfold takeNum
  have hl : (l.take k).length = k := by rw [List.length_take]; omega
  rw [dec_at h hk h9 hc, if_neg hn, take_succ' l k hk, acc_snoc, hl, Nat.mod_eq_of_lt hc]
theorem acc_step {l : List UInt8} {k : Nat} (hk : k < l.length) : acc (l.take (k + 1)) = acc (l.take k) + 128 ^ k * ((l[k]).toNat % 128) := by
  have hl : (l.take k).length = k := by rw [List.length_take]; omega
  rw [take_succ' l k hk, acc_snoc, hl]
theorem acc_take_lt (l : List UInt8) (k : Nat) (hk : k ≤ l.length) : acc (l.take k) < 128 ^ k := by
  have := acc_lt (l.take k)
  rwa [List.length_take, Nat.min_eq_left hk] at this

/-- The groups that go by are as few as there can be just if the last is not nought, or is the only one. -/
theorem num_acc_length {l : List UInt8} {k : Nat} (h : Pre l k) (hk : k < l.length) (h9 : k < 9) (hc : (l[k]).toNat < 128) :
    (num (acc (l.take (k + 1)))).length = k + 1 ↔ ¬ (0 < k ∧ (l[k]).toNat = 0) := by
  constructor
  · intro he hz
    have e1 := acc_step hk
    rw [hz.2] at e1
    have e2 := acc_take_lt l k (Nat.le_of_lt hk)
    obtain ⟨j, rfl⟩ : ∃ j, k = j + 1 := ⟨k - 1, by omega⟩
    have e3 := num_length_le j (acc (l.take (j + 1 + 1))) (by rw [e1]; simpa using e2)
    omega
  · intro hz
    have hl : (l.take k).length = k := by rw [List.length_take]; omega
    have e := dec_at h hk h9 hc
    rw [if_neg hz] at e
    have e2 := (num_dec 9 _ _ _ e).1
    rw [take_succ' l k hk, acc_snoc, hl, Nat.mod_eq_of_lt hc]
    have e3 : l.length = (num (acc (l.take k) + 128 ^ k * (l[k]).toNat)).length + (l.length - (k + 1)) := by
      have := congrArg List.length e2
      rwa [List.length_append, List.length_drop] at this
    omega

/-- A text's bytes: its length ahead of it. -/
def text (l : List UInt8) : List UInt8 := num l.length ++ l

def takeText (b : List UInt8) (most : Int) : Option (List UInt8 × List UInt8) :=
  match takeNum b with
  | none => none
  | some (n, r) => if (n : Int) ≤ most ∧ n ≤ r.length then some (r.take n, r.drop n) else none

theorem takeText_text (l r : List UInt8) (most : Int) (h : (l.length : Int) ≤ most) (h2 : l.length ≤ mostNum) : takeText (text l ++ r) most = some (l, r) := by
  unfold takeText text
  rw [List.append_assoc, takeNum_num _ _ h2]
  simp [h]

theorem text_takeText {b : List UInt8} {most : Int} {l r : List UInt8} (h : takeText b most = some (l, r)) : b = text l ++ r ∧ (l.length : Int) ≤ most ∧ l.length ≤ mostNum := by
  unfold takeText at h
  cases hd : takeNum b with
  | none => rw [hd] at h; cases h
  | some p =>
    obtain ⟨n, s⟩ := p
    rw [hd] at h
    simp only at h
    by_cases hc : (n : Int) ≤ most ∧ n ≤ s.length
    · rw [if_pos hc] at h
      obtain ⟨rfl, rfl⟩ := Prod.mk.inj (Option.some.inj h)
      obtain ⟨rfl, h2⟩ := num_takeNum hd
      have e : (s.take n).length = n := by rw [List.length_take]; omega
      exact ⟨by rw [text, e, List.append_assoc, List.take_append_drop], by rw [e]; exact hc.1, by rw [e]; exact h2⟩
    · rw [if_neg hc] at h; cases h

/-- The number of a number that may be below 0. -/
def zig (n : Int) : Nat := if 0 ≤ n then (2 * n).toNat else (-2 * n - 1).toNat
def zag (n : Nat) : Int := if n % 2 = 0 then (n / 2 : Nat) else -((n + 1) / 2 : Nat)
theorem zag_zig (n : Int) : zag (zig n) = n := by
  unfold zag zig
  split <;> split <;> omega
theorem zig_zag (n : Nat) : zig (zag n) = n := by
  unfold zag zig
  split <;> split <;> omega
theorem zig_most {n : Int} (h1 : -2305843009213693952 ≤ n) (h2 : n ≤ 2305843009213693951) : zig n ≤ mostNum := by
  unfold zig mostNum
  split <;> omega
theorem zag_range {n : Nat} (h : n ≤ mostNum) : -2305843009213693952 ≤ zag n ∧ zag n ≤ 2305843009213693951 := by
  unfold zag
  unfold mostNum at h
  split <;> omega

/-- What a number counts as. -/
def clampN (n : Int) : Nat := (min (max n 0) 4611686018427387903).toNat
def clampI (n : Int) : Int := min (max n (-2305843009213693952)) 2305843009213693951
theorem clampN_le (n : Int) : clampN n ≤ mostNum := by unfold clampN mostNum; omega
theorem clampI_range (n : Int) : -2305843009213693952 ≤ clampI n ∧ clampI n ≤ 2305843009213693951 := by unfold clampI; omega

end Go.Dol
