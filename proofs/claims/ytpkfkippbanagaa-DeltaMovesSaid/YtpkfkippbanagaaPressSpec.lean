/- What the layer 'press' computes, in plain Lean: copies of what stood ahead, and bytes again. No program is in sight. Conditions: none beyond what each lemma names. -/
import Derived.Test.YtpkfkippbanagaaCodeSpec
namespace Go.Dol
set_option linter.unusedVariables false

/-- How many of the first f bytes of two rows are alike. -/
def cnt : Nat → List UInt8 → List UInt8 → Nat
  | f + 1, x :: xs, y :: ys => if x = y then cnt f xs ys + 1 else 0
  | _, _, _ => 0
def alikeN (b : List UInt8) (k i : Nat) : Nat := cnt 259 (b.drop k) (b.drop i)

theorem cnt_le (f : Nat) : ∀ xs ys : List UInt8, cnt f xs ys ≤ f ∧ cnt f xs ys ≤ ys.length := by
  induction f with
  | zero => intro xs ys; simp [cnt]
  | succ f ih =>
    intro xs ys
    cases xs with
    | nil => simp [cnt]
    | cons x xs =>
      cases ys with
      | nil => simp [cnt]
      | cons y ys =>
        have := ih xs ys
        rw [cnt]
        split
        · simp only [List.length_cons]; omega
        · omega
theorem cnt_same (f : Nat) : ∀ (xs ys : List UInt8) (j : Nat), j < cnt f xs ys → xs[j]? = ys[j]? := by
  induction f with
  | zero => intro xs ys j h; simp [cnt] at h
  | succ f ih =>
    intro xs ys j h
    cases xs with
    | nil => simp [cnt] at h
    | cons x xs =>
      cases ys with
      | nil => simp [cnt] at h
      | cons y ys =>
        rw [cnt] at h
        split at h
        · rename_i e
          cases j with
          | zero => simp [e]
          | succ j => simpa using ih xs ys j (by omega)
        · omega
theorem cnt_ge (f : Nat) : ∀ (xs ys : List UInt8) (n : Nat), n ≤ f → n ≤ xs.length → n ≤ ys.length → (∀ j, j < n → xs[j]? = ys[j]?) → n ≤ cnt f xs ys := by
  induction f with
  | zero => intro xs ys n h _ _ _; omega
  | succ f ih =>
    intro xs ys n h1 h2 h3 h4
    cases n with
    | zero => omega
    | succ n =>
      cases xs with
      | nil => simp at h2
      | cons x xs =>
        cases ys with
        | nil => simp at h3
        | cons y ys =>
          have e : x = y := by simpa using h4 0 (by omega)
          rw [cnt, if_pos e]
          have := ih xs ys n (by omega) (by simpa using h2) (by simpa using h3) (fun j hj => by simpa using h4 (j + 1) (by omega))
          omega

theorem alike_le (b : List UInt8) (k i : Nat) : alikeN b k i ≤ 259 ∧ alikeN b k i ≤ b.length - i := by
  have := cnt_le 259 (b.drop k) (b.drop i)
  rwa [List.length_drop] at this
theorem alike_same {b : List UInt8} {k i j : Nat} (h : j < alikeN b k i) : b[k + j]? = b[i + j]? := by
  have := cnt_same 259 (b.drop k) (b.drop i) j h
  rwa [List.getElem?_drop, List.getElem?_drop] at this
theorem alike_ge {b : List UInt8} {k i n : Nat} (hk : k ≤ i) (h1 : n ≤ 259) (h2 : i + n ≤ b.length) (h : ∀ j, j < n → b[k + j]? = b[i + j]?) : n ≤ alikeN b k i :=
  cnt_ge 259 _ _ n h1 (by rw [List.length_drop]; omega) (by rw [List.length_drop]; omega) fun j hj => by
    rw [List.getElem?_drop, List.getElem?_drop]
    exact h j hj
/-- Where a count stops. -/
theorem alike_stop {b : List UInt8} {k i n : Nat} (hk : k ≤ i) (h1 : n ≤ 259) (h2 : i + n ≤ b.length) (h : ∀ j, j < n → b[k + j]? = b[i + j]?) (hs : n = 259 ∨ i + n = b.length ∨ b[k + n]? ≠ b[i + n]?) : alikeN b k i = n := by
  have hge := alike_ge hk h1 h2 h
  have hle := alike_le b k i
  rcases Nat.lt_or_ge n (alikeN b k i) with hlt | hlt
  · rcases hs with hs | hs | hs
    · omega
    · omega
    · exact absurd (alike_same hlt) hs
  · omega

/-- The longest copy among the d nearest places, the nearest of several: how long, how far back. -/
def bestD (b : List UInt8) (i : Nat) : Nat → Nat × Nat
  | 0 => (0, 0)
  | d + 1 => if (bestD b i d).1 < alikeN b (i - (d + 1)) i then (alikeN b (i - (d + 1)) i, d + 1) else bestD b i d
def longest (b : List UInt8) (i : Nat) : Nat × Nat := bestD b i (min 4096 i)

theorem bestD_spec (b : List UInt8) (i : Nat) : ∀ d, (bestD b i d).2 ≤ d ∧ (bestD b i d).1 ≤ 259 ∧ (bestD b i d).1 ≤ b.length - i ∧ (0 < (bestD b i d).1 → 0 < (bestD b i d).2 ∧ alikeN b (i - (bestD b i d).2) i = (bestD b i d).1)
  | 0 => by simp [bestD]
  | d + 1 => by
    have ih := bestD_spec b i d
    have ha := alike_le b (i - (d + 1)) i
    rw [bestD]
    split
    · exact ⟨Nat.le_refl _, ha.1, ha.2, fun _ => ⟨by omega, rfl⟩⟩
    · exact ⟨by omega, ih.2.1, ih.2.2.1, ih.2.2.2⟩
theorem bestD_full {b : List UInt8} {i d : Nat} (h : (bestD b i d).1 = 259) : ∀ m, bestD b i (d + m) = bestD b i d
  | 0 => rfl
  | m + 1 => by
    have ha := alike_le b (i - (d + m + 1)) i
    rw [show d + (m + 1) = (d + m) + 1 from rfl, bestD, bestD_full h m, if_neg (by omega)]

/-- The same, of copies of four bytes or more alone. -/
def lngD (b : List UInt8) (i d : Nat) : Nat × Nat := if 4 ≤ (bestD b i d).1 then bestD b i d else (0, 0)
theorem lngD_zero (b : List UInt8) (i : Nat) : lngD b i 0 = (0, 0) := by simp [lngD, bestD]
theorem lngD_skip {b : List UInt8} {i d : Nat} (h : alikeN b (i - (d + 1)) i < 4) : lngD b i (d + 1) = lngD b i d := by
  unfold lngD
  rw [bestD]
  split
  · rw [if_neg (by simp only; omega), if_neg (by omega)]
  · rfl
theorem lngD_take {b : List UInt8} {i d : Nat} (h : 4 ≤ alikeN b (i - (d + 1)) i) : lngD b i (d + 1) = if (lngD b i d).1 < alikeN b (i - (d + 1)) i then (alikeN b (i - (d + 1)) i, d + 1) else lngD b i d := by
  unfold lngD
  rw [bestD]
  by_cases h4 : 4 ≤ (bestD b i d).1
  · rw [if_pos h4]
    by_cases hlt : (bestD b i d).1 < alikeN b (i - (d + 1)) i
    · rw [if_pos hlt, if_pos (by simp only; omega)]
    · rw [if_neg hlt, if_pos h4]
  · rw [if_neg h4, if_pos (show (bestD b i d).1 < _ by omega), if_pos (show (0 : Nat) < _ by omega)]
    rw [if_pos (by simp only; omega)]
theorem lngD_full {b : List UInt8} {i d m : Nat} (h : (lngD b i d).1 = 259) : lngD b i (d + m) = lngD b i d := by
  unfold lngD at h ⊢
  split at h
  · rw [bestD_full h]
  · simp at h
theorem lngD_skips {b : List UInt8} {i d : Nat} : ∀ m, (∀ e, d < e → e ≤ d + m → alikeN b (i - e) i < 4) → lngD b i (d + m) = lngD b i d
  | 0, _ => rfl
  | m + 1, h => by
    rw [show d + (m + 1) = (d + m) + 1 from rfl, lngD_skip (h _ (by omega) (by omega)), lngD_skips m fun e h1 h2 => h e h1 (by omega)]
def lng (b : List UInt8) (i : Nat) : Nat × Nat := lngD b i (min 4096 i)
theorem lng_lt (b : List UInt8) (i : Nat) : (lng b i).1 < 4 ↔ (longest b i).1 < 4 := by
  unfold lng lngD longest
  split
  · exact Iff.rfl
  · constructor
    · omega
    · intro _; simp
theorem lng_ge {b : List UInt8} {i : Nat} (h : 4 ≤ (lng b i).1) : lng b i = longest b i := by
  unfold lng lngD longest at *
  split
  · rfl
  · rename_i h1
    rw [if_neg h1] at h
    simp at h
theorem lng_end {b : List UInt8} {i : Nat} (h : b.length < i + 4) : lng b i = (0, 0) := by
  have h1 := (bestD_spec b i (min 4096 i)).2.2.1
  unfold lng lngD
  rw [if_neg (by omega)]

/-- Four bytes at a place are four others just if four at least are alike. -/
theorem four_iff {b : List UInt8} {k i : Nat} (hk : k ≤ i) (hi : i + 4 ≤ b.length) : (b.drop k).take 4 = (b.drop i).take 4 ↔ 4 ≤ alikeN b k i := by
  constructor
  · intro h
    refine alike_ge hk (by omega) hi fun j hj => ?_
    have h1 : ((b.drop k).take 4)[j]? = ((b.drop i).take 4)[j]? := by rw [h]
    rw [List.getElem?_take, List.getElem?_take, if_pos hj, if_pos hj, List.getElem?_drop, List.getElem?_drop] at h1
    exact h1
  · intro h
    apply List.ext_getElem?
    intro j
    rw [List.getElem?_take, List.getElem?_take]
    split
    · rw [List.getElem?_drop, List.getElem?_drop]
      exact alike_same (by omega)
    · rfl

/-- A run of bytes. -/
def runB (l : List UInt8) : List UInt8 := if l = [] then [] else num (2 * (l.length - 1)) ++ l
theorem longest_le (b : List UInt8) (i : Nat) : (longest b i).1 ≤ b.length - i := (bestD_spec b i _).2.2.1
/-- The tokens from a place on. -/
def press (b : List UInt8) (i frm : Nat) : List UInt8 :=
  if h : i < b.length then
    if (longest b i).1 < 4 then press b (i + 1) frm
    else runB ((b.drop frm).take (i - frm)) ++ (num (2 * ((longest b i).1 - 4) + 1) ++ (num (longest b i).2 ++ press b (i + (longest b i).1) (i + (longest b i).1)))
  else runB (b.drop frm)
termination_by b.length - i
decreasing_by all_goals omega
def pressL (b : List UInt8) : List UInt8 := num b.length ++ press b 0 0

theorem press_end {b : List UInt8} {i frm : Nat} (h : b.length ≤ i) : press b i frm = runB (b.drop frm) := by rw [press, dif_neg (by omega)]
theorem press_next {b : List UInt8} {i frm : Nat} (h : i < b.length) (h4 : (longest b i).1 < 4) : press b i frm = press b (i + 1) frm := by rw [press, dif_pos h, if_pos h4]
theorem press_copy {b : List UInt8} {i frm : Nat} (h : i < b.length) (h4 : 4 ≤ (longest b i).1) :
    press b i frm = runB ((b.drop frm).take (i - frm)) ++ (num (2 * ((longest b i).1 - 4) + 1) ++ (num (longest b i).2 ++ press b (i + (longest b i).1) (i + (longest b i).1))) := by
  rw [press, dif_pos h, if_neg (by omega)]
theorem longest_spec {b : List UInt8} {i : Nat} (h : 0 < (longest b i).1) : 0 < (longest b i).2 ∧ (longest b i).2 ≤ i ∧ (longest b i).2 ≤ 4096 ∧ (longest b i).1 ≤ 259 ∧ i + (longest b i).1 ≤ b.length ∧
    ∀ j, j < (longest b i).1 → b[i - (longest b i).2 + j]? = b[i + j]? := by
  have hs := bestD_spec b i (min 4096 i)
  have h4 := hs.2.2.2 h
  have hle := hs.2.2.1
  refine ⟨h4.1, ?_, ?_, hs.2.1, ?_, fun j hj => ?_⟩
  · have := hs.1; unfold longest; omega
  · have := hs.1; unfold longest; omega
  · unfold longest at h ⊢; omega
  · unfold longest at hj ⊢
    rw [← h4.2] at hj
    exact alike_same hj

/-- What copies itself. -/
def copyN (out : List UInt8) (d : Nat) : Nat → List UInt8
  | 0 => out
  | n + 1 => copyN (out ++ [out.getD (out.length - d) 0]) d n
theorem copyN_length (d : Nat) : ∀ (n : Nat) (out : List UInt8), (copyN out d n).length = out.length + n
  | 0, out => rfl
  | n + 1, out => by rw [copyN, copyN_length d n, List.length_append, List.length_singleton]; omega

/-- The bytes again: tokens till there are none. -/
def openF (size : Nat) : Nat → List UInt8 → List UInt8 → Option (List UInt8)
  | _, out, [] => if out.length = size then some out else none
  | 0, _, _ :: _ => none
  | f + 1, out, c :: q =>
    match takeNum (c :: q) with
    | none => none
    | some (t, rest) =>
      if t % 2 = 0 then
        if t / 2 + 1 ≤ size - out.length ∧ t / 2 + 1 ≤ rest.length then openF size f (out ++ rest.take (t / 2 + 1)) (rest.drop (t / 2 + 1)) else none
      else
        match takeNum rest with
        | none => none
        | some (d, rest2) => if t / 2 + 4 ≤ size - out.length ∧ t / 2 + 4 ≤ 259 ∧ 1 ≤ d ∧ d ≤ out.length ∧ d ≤ 4096 then openF size f (copyN out d (t / 2 + 4)) rest2 else none
def openGo (size : Nat) (out p : List UInt8) : Option (List UInt8) := openF size p.length out p
def openL (p : List UInt8) (most : Int) : Option (List UInt8) :=
  match takeNum p with
  | none => none
  | some (size, rest) => if (size : Int) ≤ most then openGo size [] rest else none

theorem takeNum_less {p : List UInt8} {t : Nat} {rest : List UInt8} (h : takeNum p = some (t, rest)) : rest.length < p.length := by
  obtain ⟨rfl, _⟩ := num_takeNum h
  have := num_pos t
  rw [List.length_append]
  omega
theorem openF_fuel (size : Nat) : ∀ (f g : Nat) (out p : List UInt8), p.length ≤ f → p.length ≤ g → openF size f out p = openF size g out p := by
  intro f
  induction f with
  | zero =>
    intro g out p hf hg
    obtain rfl : p = [] := List.eq_nil_of_length_eq_zero (by omega)
    cases g <;> rfl
  | succ f ih =>
    intro g out p hf hg
    cases p with
    | nil => cases g <;> rfl
    | cons c q =>
      cases g with
      | zero => simp at hg
      | succ g =>
        rw [openF, openF]
        cases ht : takeNum (c :: q) with
        | none => rfl
        | some x =>
          obtain ⟨t, rest⟩ := x
          have hl := takeNum_less ht
          simp only [List.length_cons] at hl hf hg
          simp only
          split
          · split
            · exact ih g _ _ (by rw [List.length_drop]; omega) (by rw [List.length_drop]; omega)
            · rfl
          · cases ht2 : takeNum rest with
            | none => rfl
            | some y =>
              obtain ⟨d, rest2⟩ := y
              have hl2 := takeNum_less ht2
              simp only
              split
              · exact ih g _ _ (by omega) (by omega)
              · rfl
theorem openGo_nil (size : Nat) (out : List UInt8) : openGo size out [] = if out.length = size then some out else none := rfl
theorem openGo_none {size : Nat} {out p : List UInt8} (hp : p ≠ []) (h : takeNum p = none) : openGo size out p = none := by
  cases p with
  | nil => exact absurd rfl hp
  | cons c q => unfold openGo; rw [List.length_cons, openF, h]
theorem openGo_run {size : Nat} {out p : List UInt8} {t : Nat} {rest : List UInt8} (h : takeNum p = some (t, rest)) (ht : t % 2 = 0) :
    openGo size out p = if t / 2 + 1 ≤ size - out.length ∧ t / 2 + 1 ≤ rest.length then openGo size (out ++ rest.take (t / 2 + 1)) (rest.drop (t / 2 + 1)) else none := by
  have hl := takeNum_less h
  cases p with
  | nil => simp at hl
  | cons c q =>
    unfold openGo
    rw [List.length_cons, openF, h]
    simp only
    rw [if_pos ht]
    split
    · rw [openF_fuel]
      · rw [List.length_drop, List.length_cons] at *; omega
      · exact Nat.le_refl _
    · rfl
theorem openGo_copy {size : Nat} {out p : List UInt8} {t : Nat} {rest : List UInt8} (h : takeNum p = some (t, rest)) (ht : t % 2 = 1) {d : Nat} {rest2 : List UInt8} (h2 : takeNum rest = some (d, rest2)) :
    openGo size out p = if t / 2 + 4 ≤ size - out.length ∧ t / 2 + 4 ≤ 259 ∧ 1 ≤ d ∧ d ≤ out.length ∧ d ≤ 4096 then openGo size (copyN out d (t / 2 + 4)) rest2 else none := by
  have hl := takeNum_less h
  have hl2 := takeNum_less h2
  cases p with
  | nil => simp at hl
  | cons c q =>
    unfold openGo
    rw [List.length_cons, openF, h]
    simp only
    rw [if_neg (by omega), h2]
    simp only
    split
    · rw [openF_fuel]
      · rw [List.length_cons] at *; omega
      · exact Nat.le_refl _
    · rfl
theorem openGo_copy_none {size : Nat} {out p : List UInt8} {t : Nat} {rest : List UInt8} (h : takeNum p = some (t, rest)) (ht : t % 2 = 1) (h2 : takeNum rest = none) : openGo size out p = none := by
  have hl := takeNum_less h
  cases p with
  | nil => simp at hl
  | cons c q =>
    unfold openGo
    rw [List.length_cons, openF, h]
    simp only
    rw [if_neg (by omega), h2]
theorem openGo_copy_bad {size : Nat} {out p : List UInt8} {t : Nat} {rest : List UInt8} (h : takeNum p = some (t, rest)) (ht : t % 2 = 1) (hb : ¬ (t / 2 + 4 ≤ size - out.length ∧ t / 2 + 4 ≤ 259)) : openGo size out p = none := by
  cases h2 : takeNum rest with
  | none => exact openGo_copy_none h ht h2
  | some y =>
    obtain ⟨d, rest2⟩ := y
    rw [openGo_copy h ht h2, if_neg (fun hh => hb ⟨hh.1, hh.2.1⟩)]
end Go.Dol
