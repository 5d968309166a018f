/- What layer 'delta' computes, in plain Lean: how a target is told by a base, and back. No program is in sight. Conditions: as each lemma names. -/
import Derived.Test.YtpkfkippbanagaaPressLaw
namespace Go.Dol
set_option linter.unusedVariables false

/-- How many bytes two begin with alike. -/
def begins (a b : List UInt8) : Nat := cnt a.length a b
/-- How many bytes two end with alike. -/
def ends (a b : List UInt8) : Nat := begins a.reverse b.reverse
def copyOf (n k : Nat) : List UInt8 := if n = 0 then [] else num (2 * (n - 1) + 1) ++ num k
/-- The first block of a base, from one place on, that some bytes begin with. -/
def blockF (base b : List UInt8) : Nat → Nat → Option Nat
  | 0, _ => none
  | f + 1, k => if k + 16 ≤ base.length then (if (base.drop k).take 16 = b.take 16 then some k else blockF base b f (k + 16)) else none
def blockAt (base b : List UInt8) : Option Nat := if 16 ≤ b.length then blockF base b base.length 0 else none
/-- The middle's tokens: at a place, with bytes passed over from another one on. -/
def mid (base m : List UInt8) : Nat → Nat → Nat → List UInt8
  | 0, _, frm => runB (m.drop frm)
  | f + 1, i, frm =>
    if i < m.length then
      match blockAt base (m.drop i) with
      | none => mid base m f (i + 1) frm
      | some k => runB ((m.drop frm).take (i - frm)) ++ (copyOf (begins (base.drop k) (m.drop i)) k ++ mid base m f (i + begins (base.drop k) (m.drop i)) (i + begins (base.drop k) (m.drop i)))
    else runB (m.drop frm)
def midL (base m : List UInt8) : List UInt8 := mid base m m.length 0 0
def encL (base target : List UInt8) : List UInt8 :=
  num base.length ++ (num target.length ++ (copyOf (begins base target) 0 ++
    (midL base ((target.drop (begins base target)).take (target.length - begins base target - ends (base.drop (begins base target)) (target.drop (begins base target)))) ++
      copyOf (ends (base.drop (begins base target)) (target.drop (begins base target))) (base.length - ends (base.drop (begins base target)) (target.drop (begins base target))))))

/-- The target again: tokens till there are none. -/
def dF (base : List UInt8) (size : Nat) : Nat → List UInt8 → List UInt8 → Option (List UInt8)
  | _, out, [] => if out.length = size then some out else none
  | 0, _, _ :: _ => none
  | f + 1, out, c :: q =>
    match takeNum (c :: q) with
    | none => none
    | some (t, rest) =>
      if t % 2 = 0 then
        if t / 2 + 1 ≤ size - out.length ∧ t / 2 + 1 ≤ rest.length then dF base size f (out ++ rest.take (t / 2 + 1)) (rest.drop (t / 2 + 1)) else none
      else
        match takeNum rest with
        | none => none
        | some (d, rest2) => if t / 2 + 1 ≤ size - out.length ∧ d + (t / 2 + 1) ≤ base.length then dF base size f (out ++ (base.drop d).take (t / 2 + 1)) rest2 else none
def dGo (base : List UInt8) (size : Nat) (out p : List UInt8) : Option (List UInt8) := dF base size p.length out p
def applyL (base d : List UInt8) (most : Int) : Option (List UInt8) :=
  match takeNum d with
  | none => none
  | some (n, p) =>
    if n = base.length then
      match takeNum p with
      | none => none
      | some (size, q) => if (size : Int) ≤ most then dGo base size [] q else none
    else none

theorem dF_fuel (base : List UInt8) (size : Nat) : ∀ (f g : Nat) (out p : List UInt8), p.length ≤ f → p.length ≤ g → dF base size f out p = dF base size g out p := by
  intro f
  induction f with
  | zero =>
    intro g out p hf hg
    obtain rfl : p = [] := List.eq_nil_of_length_eq_zero (by omega)
    cases g <;> rfl
  | succ f ih =>
    intro g out p hf hg
    cases p with
    | nil => cases g <;> rfl
    | cons c q =>
      cases g with
      | zero => simp at hg
      | succ g =>
        rw [dF, dF]
        cases ht : takeNum (c :: q) with
        | none => rfl
        | some x =>
          obtain ⟨t, rest⟩ := x
          have hl := takeNum_less ht
          simp only [List.length_cons] at hl hf hg
          simp only
          split
          · split
            · exact ih g _ _ (by rw [List.length_drop]; omega) (by rw [List.length_drop]; omega)
            · rfl
          · cases ht2 : takeNum rest with
            | none => rfl
            | some y =>
              obtain ⟨d, rest2⟩ := y
              have hl2 := takeNum_less ht2
              simp only
              split
              · exact ih g _ _ (by omega) (by omega)
              · rfl
theorem dGo_nil (base : List UInt8) (size : Nat) (out : List UInt8) : dGo base size out [] = if out.length = size then some out else none := rfl
theorem dGo_none {base : List UInt8} {size : Nat} {out p : List UInt8} (hp : p ≠ []) (h : takeNum p = none) : dGo base size out p = none := by
  cases p with
  | nil => exact absurd rfl hp
  | cons c q => unfold dGo; rw [List.length_cons, dF, h]
theorem dGo_run {base : List UInt8} {size : Nat} {out p : List UInt8} {t : Nat} {rest : List UInt8} (h : takeNum p = some (t, rest)) (ht : t % 2 = 0) :
    dGo base size out p = if t / 2 + 1 ≤ size - out.length ∧ t / 2 + 1 ≤ rest.length then dGo base size (out ++ rest.take (t / 2 + 1)) (rest.drop (t / 2 + 1)) else none := by
  have hl := takeNum_less h
  cases p with
  | nil => simp at hl
  | cons c q =>
    unfold dGo
    rw [List.length_cons, dF, h]
    simp only
    rw [if_pos ht]
    split
    · rw [dF_fuel]
      · rw [List.length_drop, List.length_cons] at *; omega
      · exact Nat.le_refl _
    · rfl
theorem dGo_copy {base : List UInt8} {size : Nat} {out p : List UInt8} {t : Nat} {rest : List UInt8} (h : takeNum p = some (t, rest)) (ht : t % 2 = 1) {d : Nat} {rest2 : List UInt8} (h2 : takeNum rest = some (d, rest2)) :
    dGo base size out p = if t / 2 + 1 ≤ size - out.length ∧ d + (t / 2 + 1) ≤ base.length then dGo base size (out ++ (base.drop d).take (t / 2 + 1)) rest2 else none := by
  have hl := takeNum_less h
  have hl2 := takeNum_less h2
  cases p with
  | nil => simp at hl
  | cons c q =>
    unfold dGo
    rw [List.length_cons, dF, h]
    simp only
    rw [if_neg (by omega), h2]
    simp only
    split
    · rw [dF_fuel]
      · rw [List.length_cons] at *; omega
      · exact Nat.le_refl _
    · rfl
theorem dGo_copy_none {base : List UInt8} {size : Nat} {out p : List UInt8} {t : Nat} {rest : List UInt8} (h : takeNum p = some (t, rest)) (ht : t % 2 = 1) (h2 : takeNum rest = none) : dGo base size out p = none := by
  have hl := takeNum_less h
  cases p with
  | nil => simp at hl
  | cons c q =>
    unfold dGo
    rw [List.length_cons, dF, h]
    simp only
    rw [if_neg (by omega), h2]
theorem dGo_big {base : List UInt8} {size : Nat} {out p : List UInt8} {t : Nat} {rest : List UInt8} (h : takeNum p = some (t, rest)) (hb : ¬ (t / 2 + 1 ≤ size - out.length)) : dGo base size out p = none := by
  by_cases he : t % 2 = 0
  · rw [dGo_run h he, if_neg (fun hh => hb hh.1)]
  · cases h2 : takeNum rest with
    | none => exact dGo_copy_none h (by omega) h2
    | some y => rw [dGo_copy h (by omega) h2, if_neg (fun hh => hb hh.1)]
theorem d_lt {base : List UInt8} {size : Nat} {out p r : List UInt8} (hp : p ≠ []) (h : dGo base size out p = some r) : out.length < size := by
  cases ht : takeNum p with
  | none => rw [dGo_none hp ht] at h; cases h
  | some x =>
    obtain ⟨t, rest⟩ := x
    by_cases he : t % 2 = 0
    · rw [dGo_run ht he] at h
      split at h
      · omega
      · cases h
    · cases ht2 : takeNum rest with
      | none => rw [dGo_copy_none ht (by omega) ht2] at h; cases h
      | some y =>
        obtain ⟨d, rest2⟩ := y
        rw [dGo_copy ht (by omega) ht2] at h
        split at h
        · omega
        · cases h
theorem d_cut {base : List UInt8} {size : Nat} {r : List UInt8} : ∀ (m : Nat) (out p : List UInt8) (q : Nat), p.length ≤ m → dGo base size out p = some r → q < p.length → dGo base size out (p.take q) = none := by
  intro m
  induction m with
  | zero => intro out p q h1 _ h3; omega
  | succ m ih =>
    intro out p q h1 h h3
    have hp : p ≠ [] := fun e => by rw [e] at h3; simp at h3
    have hlt := d_lt hp h
    rcases Nat.eq_zero_or_pos q with hq | hq
    · rw [hq, List.take_zero, dGo_nil, if_neg (by omega)]
    have hne : p.take q ≠ [] := fun e => by
      have h0 : (p.take q).length = 0 := by rw [e]; rfl
      rw [List.length_take] at h0
      omega
    cases ht : takeNum p with
    | none => rw [dGo_none hp ht] at h; cases h
    | some x =>
      obtain ⟨t, rest⟩ := x
      obtain ⟨e1, hm1⟩ := num_takeNum ht
      rcases Nat.lt_or_ge q (num t).length with hqn | hqn
      · refine dGo_none hne ?_
        rw [e1, cut_lt hqn]
        exact takeNum_cut' hm1 hqn
      · have ht' : takeNum (p.take q) = some (t, rest.take (q - (num t).length)) := by
          rw [e1, cut_app hqn]
          exact takeNum_num t _ hm1
        have hlen : p.length = (num t).length + rest.length := by rw [e1, List.length_append]
        have hnp := num_pos t
        by_cases he : t % 2 = 0
        · rw [dGo_run ht he] at h
          rw [dGo_run ht' he]
          split at h
          · rename_i hc
            by_cases hc2 : t / 2 + 1 ≤ (rest.take (q - (num t).length)).length
            · rw [if_pos ⟨hc.1, hc2⟩]
              rw [List.length_take] at hc2
              have h5 : (rest.take (q - (num t).length)).take (t / 2 + 1) = rest.take (t / 2 + 1) := by rw [List.take_take]; congr 1; omega
              have h6 : (rest.take (q - (num t).length)).drop (t / 2 + 1) = (rest.drop (t / 2 + 1)).take (q - (num t).length - (t / 2 + 1)) := List.drop_take
              rw [h5, h6]
              exact ih _ _ _ (by rw [List.length_drop]; omega) h (by rw [List.length_drop]; omega)
            · rw [if_neg (fun hh => hc2 hh.2)]
          · cases h
        · cases ht2 : takeNum rest with
          | none => rw [dGo_copy_none ht (by omega) ht2] at h; cases h
          | some y =>
            obtain ⟨d, rest2⟩ := y
            obtain ⟨e2, hm2⟩ := num_takeNum ht2
            rw [dGo_copy ht (by omega) ht2] at h
            split at h
            · rename_i hc
              have hlen2 : rest.length = (num d).length + rest2.length := by rw [e2, List.length_append]
              rcases Nat.lt_or_ge (q - (num t).length) (num d).length with hqd | hqd
              · refine dGo_copy_none ht' (by omega) ?_
                rw [e2, cut_lt hqd]
                exact takeNum_cut' hm2 hqd
              · have ht2' : takeNum (rest.take (q - (num t).length)) = some (d, rest2.take (q - (num t).length - (num d).length)) := by
                  rw [e2, cut_app hqd]
                  exact takeNum_num d _ hm2
                rw [dGo_copy ht' (by omega) ht2', if_pos hc]
                exact ih _ _ _ (by omega) h (by omega)
            · cases h
theorem d_more {base : List UInt8} {size : Nat} {r : List UInt8} (x : UInt8) : ∀ (m : Nat) (out p : List UInt8), p.length ≤ m → dGo base size out p = some r → dGo base size out (p ++ [x]) = none := by
  have hone : ∀ out : List UInt8, out.length = size → dGo base size out [x] = none := by
    intro out hs
    cases ht : takeNum [x] with
    | none => exact dGo_none (by simp) ht
    | some y =>
      obtain ⟨t, rest⟩ := y
      have hl := takeNum_less ht
      have hr : rest = [] := List.eq_nil_of_length_eq_zero (by simp at hl; simp [hl])
      by_cases he : t % 2 = 0
      · rw [dGo_run ht he, if_neg (by omega)]
      · exact dGo_copy_none ht (by omega) (by rw [hr]; decide)
  intro m
  induction m with
  | zero =>
    intro out p h1 h
    obtain rfl : p = [] := List.eq_nil_of_length_eq_zero (by omega)
    rw [dGo_nil] at h
    split at h
    · exact hone out (by assumption)
    · cases h
  | succ m ih =>
    intro out p h1 h
    by_cases hp : p = []
    · subst hp
      rw [dGo_nil] at h
      split at h
      · exact hone out (by assumption)
      · cases h
    cases ht : takeNum p with
    | none => rw [dGo_none hp ht] at h; cases h
    | some y =>
      obtain ⟨t, rest⟩ := y
      obtain ⟨e1, hm1⟩ := num_takeNum ht
      have ht' : takeNum (p ++ [x]) = some (t, rest ++ [x]) := by rw [e1, List.append_assoc]; exact takeNum_num t _ hm1
      have hl := takeNum_less ht
      by_cases he : t % 2 = 0
      · rw [dGo_run ht he] at h
        rw [dGo_run ht' he]
        split at h
        · rename_i hc
          rw [if_pos ⟨hc.1, by rw [List.length_append]; omega⟩, List.take_append_of_le_length hc.2, List.drop_append_of_le_length hc.2]
          exact ih _ _ (by rw [List.length_drop]; omega) h
        · cases h
      · cases ht2 : takeNum rest with
        | none => rw [dGo_copy_none ht (by omega) ht2] at h; cases h
        | some z =>
          obtain ⟨d, rest2⟩ := z
          obtain ⟨e2, hm2⟩ := num_takeNum ht2
          have ht2' : takeNum (rest ++ [x]) = some (d, rest2 ++ [x]) := by rw [e2, List.append_assoc]; exact takeNum_num d _ hm2
          have hl2 := takeNum_less ht2
          rw [dGo_copy ht (by omega) ht2] at h
          rw [dGo_copy ht' (by omega) ht2']
          split at h
          · rename_i hc
            rw [if_pos hc]
            exact ih _ _ (by omega) h
          · cases h
end Go.Dol
