/- What the layer 'sum' computes, in plain Lean: eight words, blocks of 32 bytes, as the code's own operations reckon them. No program is in sight. Conditions: none beyond what each lemma names. -/
import Derived.Test.YtcefbhmmijmefaaWords2
namespace Go.Dol
set_option linter.unusedVariables false

/-- A word's bits moved up, those above coming in again below: as the code reckons it. -/
def rotl (x : Int) (k : Nat) : Int := bits .or .u32 ((x * 2 ^ k) % 4294967296) (x / 2 ^ (32 - k))

def getI (S : List Int) (i : Nat) : Int := S[i]?.getD 0

/-- One word's turn. -/
def mixAt (S W : List Int) (r i : Nat) : Int :=
  (rotl (bits .xor .u32 (getI S i) (getI W ((i + r) % 8))) (5 + 3 * i) + getI S ((i + 1) % 8) * 2246822507 + ((i : Int) + (r : Int))) % 4294967296
def inner (S W : List Int) (r : Nat) : Nat → List Int
  | 0 => S
  | i + 1 => (inner S W r i).set i (mixAt (inner S W r i) W r i)
def rounds (S W : List Int) : Nat → List Int
  | 0 => S
  | r + 1 => inner (rounds S W r) W r 8
theorem inner_length (S W : List Int) (r i : Nat) : (inner S W r i).length = S.length := by
  induction i with
  | zero => rfl
  | succ i ih => simp [inner, ih]
theorem rounds_length (S W : List Int) (r : Nat) : (rounds S W r).length = S.length := by
  induction r with
  | zero => rfl
  | succ r ih => rw [rounds, inner_length, ih]

/-- Words of 32 bits. -/
def Words (S : List Int) : Prop := S.length = 8 ∧ ∀ x ∈ S, 0 ≤ x ∧ x < 4294967296
theorem Words.get {S : List Int} (h : Words S) {i : Nat} (hi : i < 8) : 0 ≤ getI S i ∧ getI S i < 4294967296 := by
  have hl : i < S.length := by rw [h.1]; exact hi
  have : getI S i = S[i] := by simp [getI, List.getElem?_eq_getElem hl]
  rw [this]
  exact h.2 _ (List.getElem_mem hl)
theorem Words.set {S : List Int} (h : Words S) (i : Nat) {x : Int} (hx : 0 ≤ x ∧ x < 4294967296) : Words (S.set i x) :=
  ⟨by rw [List.length_set]; exact h.1, fun y hy => by
    rcases List.mem_or_eq_of_mem_set hy with hy | rfl
    · exact h.2 y hy
    · exact hx⟩
theorem mixAt_range (S W : List Int) (r i : Nat) : 0 ≤ mixAt S W r i ∧ mixAt S W r i < 4294967296 := by
  unfold mixAt
  omega
theorem Words.inner {S : List Int} (h : Words S) (W : List Int) (r : Nat) : ∀ i, Words (inner S W r i)
  | 0 => h
  | i + 1 => (Words.inner h W r i).set i (mixAt_range _ _ _ _)
theorem Words.rounds {S : List Int} (h : Words S) (W : List Int) : ∀ r, Words (rounds S W r)
  | 0 => h
  | r + 1 => (Words.rounds h W r).inner W r 8

/-- The number of bytes, the least first. -/
def leN (l : List UInt8) : Nat := l.foldr (fun c m => c.toNat + 256 * m) 0
theorem leN_snoc (l : List UInt8) (c : UInt8) : leN (l ++ [c]) = leN l + 256 ^ l.length * c.toNat := by
  induction l with
  | nil => simp [leN]
  | cons x l ih =>
    have e1 : leN (x :: l ++ [c]) = x.toNat + 256 * leN (l ++ [c]) := rfl
    have e2 : leN (x :: l) = x.toNat + 256 * leN l := rfl
    rw [e1, e2, ih, List.length_cons, Nat.pow_succ, Nat.mul_add, Nat.add_assoc, Nat.mul_comm (256 ^ l.length) 256, Nat.mul_assoc]
theorem leN_lt (l : List UInt8) : leN l < 256 ^ l.length := by
  induction l with
  | nil => simp [leN]
  | cons x l ih =>
    have e2 : leN (x :: l) = x.toNat + 256 * leN l := rfl
    have := x.toNat_lt
    rw [e2, List.length_cons, Nat.pow_succ]
    omega

/-- A block's words. -/
def wordAt (b : List UInt8) (i : Nat) : Int := (leN ((b.drop (4 * i)).take 4) : Nat)
def wordsOf (b : List UInt8) : List Int := (List.range 8).map (wordAt b)
/-- A block is taken. -/
def sumB (S : List Int) (b : List UInt8) : List Int := rounds S (wordsOf b) 8

theorem wordAt_range (b : List UInt8) (i : Nat) : 0 ≤ wordAt b i ∧ wordAt b i < 4294967296 := by
  unfold wordAt
  have h := leN_lt ((b.drop (4 * i)).take 4)
  have h2 : 256 ^ ((b.drop (4 * i)).take 4).length ≤ 256 ^ 4 := Nat.pow_le_pow_right (by decide) (List.length_take_le _ _)
  omega
theorem wordsOf_words (b : List UInt8) : Words (wordsOf b) :=
  ⟨by simp [wordsOf], fun x hx => by
    obtain ⟨i, _, rfl⟩ := List.mem_map.1 hx
    exact wordAt_range b i⟩
theorem Words.sumB {S : List Int} (h : Words S) (b : List UInt8) : Words (sumB S b) := h.rounds _ 8

/-- Whole blocks are taken; what is left. -/
def absorb (S : List Int) (l : List UInt8) : List Int × List UInt8 :=
  if h : l.length < 32 then (S, l) else absorb (sumB S (l.take 32)) (l.drop 32)
termination_by l.length
decreasing_by simp; omega

theorem absorb_lt {S : List Int} {l : List UInt8} (h : l.length < 32) : absorb S l = (S, l) := by rw [absorb, dif_pos h]
theorem absorb_ge {S : List Int} {l : List UInt8} (h : 32 ≤ l.length) : absorb S l = absorb (sumB S (l.take 32)) (l.drop 32) := by rw [absorb, dif_neg (by omega)]

theorem absorb_words {S : List Int} (l : List UInt8) (h : Words S) : Words (absorb S l).1 := by
  induction hl : l.length using Nat.strongRecOn generalizing S l with
  | _ n ih =>
    by_cases h32 : l.length < 32
    · rw [absorb_lt h32]; exact h
    · rw [absorb_ge (by omega)]
      exact ih (l.drop 32).length (by rw [List.length_drop]; omega) _ (h.sumB _) rfl
theorem absorb_rest (S : List Int) (l : List UInt8) : (absorb S l).2.length < 32 ∧ (absorb S l).2.length % 32 = l.length % 32 := by
  induction hl : l.length using Nat.strongRecOn generalizing S l with
  | _ n ih =>
    by_cases h32 : l.length < 32
    · rw [absorb_lt h32]; exact ⟨h32, by rw [hl]⟩
    · rw [absorb_ge (by omega)]
      have := ih (l.drop 32).length (by rw [List.length_drop]; omega) (sumB S (l.take 32)) (l.drop 32) rfl
      rw [List.length_drop] at this
      exact ⟨this.1, by omega⟩
/-- Given one after the other, or at once. -/
theorem absorb_append (S : List Int) (a b : List UInt8) : absorb S (a ++ b) = absorb (absorb S a).1 ((absorb S a).2 ++ b) := by
  induction hl : a.length using Nat.strongRecOn generalizing S a with
  | _ n ih =>
    by_cases h32 : a.length < 32
    · rw [absorb_lt h32]
    · rw [absorb_ge (l := a) (by omega), absorb_ge (l := a ++ b) (by rw [List.length_append]; omega)]
      rw [List.take_append_of_le_length (by omega), List.drop_append_of_le_length (by omega)]
      exact ih (a.drop 32).length (by rw [List.length_drop]; omega) _ _ rfl

def first : List Int := (List.range 8).map fun (i : Nat) => (((i : Int) + 1) * 2654435769) % 4294967296
theorem first_words : Words first := ⟨by simp [first], fun x hx => by
  obtain ⟨i, _, rfl⟩ := List.mem_map.1 hx
  omega⟩

/-- A number's bytes, the least first. -/
def leB : Nat → Nat → List UInt8
  | 0, _ => []
  | n + 1, x => UInt8.ofNat (x % 256) :: leB n (x / 256)
theorem leB_length : ∀ n x, (leB n x).length = n
  | 0, _ => rfl
  | n + 1, x => by simp [leB, leB_length n]

/-- What stands behind the bytes: a one, noughts, the length, a block of noughts. -/
def padN (m : Nat) : Nat := (24 + 64 - (m % 32 + 1)) % 32
def padding (m n : Nat) : List UInt8 := 1 :: (List.replicate (padN m) 0 ++ (leB 8 n ++ List.replicate 32 0))
def outOf (S : List Int) : List UInt8 := S.flatMap fun x => leB 4 x.toNat
/-- The end of a run that was given so many bytes, behind whole blocks, with what is left. -/
def endOf (S : List Int) (rest : List UInt8) (n : Nat) : List UInt8 := outOf (absorb S (rest ++ padding rest.length n)).1
/-- The hash. -/
def sumOf (b : List UInt8) : List UInt8 := endOf (absorb first b).1 (absorb first b).2 b.length

theorem outOf_length {S : List Int} (h : S.length = 8) : (outOf S).length = 32 := by
  have : ∀ l : List Int, (l.flatMap fun x => leB 4 x.toNat).length = 4 * l.length := by
    intro l
    induction l with
    | nil => rfl
    | cons x l ih => rw [List.flatMap_cons, List.length_append, leB_length, ih, List.length_cons]; omega
  rw [outOf, this, h]
theorem sumOf_length (b : List UInt8) : (sumOf b).length = 32 := outOf_length (absorb_words _ (absorb_words _ first_words)).1

theorem padding_mod {a b : Nat} (h : a % 32 = b % 32) (n : Nat) : padding a n = padding b n := by unfold padding padN; rw [h]
/-- All at once. -/
theorem sumOf_whole (b : List UInt8) : sumOf b = outOf (absorb first (b ++ padding b.length b.length)).1 := by
  unfold sumOf endOf
  rw [absorb_append first b, padding_mod (absorb_rest first b).2]
theorem padding_length (m n : Nat) : (m + (padding m n).length) % 32 = 0 := by
  unfold padding padN
  simp only [List.length_cons, List.length_append, List.length_replicate, leB_length]
  omega
end Go.Dol
