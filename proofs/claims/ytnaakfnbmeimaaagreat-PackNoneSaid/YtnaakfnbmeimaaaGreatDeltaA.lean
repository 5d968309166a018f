/- What layer 'delta' computes, in plain Lean: how a target is told by a base, and back. No program is in sight. Conditions: as each lemma names. What any target is told by is that target again; what it costs. In plain Lean, no program is in sight. Conditions: as each lemma names. The walks of the layer 'delta', its first part: the document's functions but for Encode and Apply. Conditions: lengths below 2^47. The walks of the layer 'delta', its second part: the document's tokens. Conditions: lengths below 2^40. The walks of the layer 'delta', its third part: the document's Apply. Conditions: lengths below 2^47. NOT BUILT YET. Loop: go_loopw [9, 12] (p, out); append: (.tmp 98) (.tmp 106). The index of a base's blocks: where each one stands first. In plain Lean, no program is in sight. Conditions: as each lemma names. The walks of the layer 'delta': the first block that some bytes begin with (the document's). Conditions: lengths below 2^47. The walks of the layer 'delta': how many bytes two end with alike (the document's). Conditions: lengths below 2^47. The middle's tokens without fuel, step by step; a piece of a slice of bytes as the walk spells it. Conditions: as each lemma names. The walks of the layer 'delta', its fifth part: the document's Encode. Conditions: lengths below 2^20. -/
import Derived.Test.YtnaakfnbmeimaaaGreatPressA
import Derived.Test.YtnaakfnbmeimaaaGreatCodeA
import Derived.Test.YtnaakfnbmeimaaaGreatWordsA
import Derived.Deep.QuietTactic
import Derived.BigQuiet
namespace Go.Dol
set_option linter.unusedVariables false

/-- How many bytes two begin with alike. -/
def begins (a b : List UInt8) : Nat := cnt a.length a b
/-- How many bytes two end with alike. -/
def ends (a b : List UInt8) : Nat := begins a.reverse b.reverse
def copyOf (n k : Nat) : List UInt8 := if n = 0 then [] else num (2 * (n - 1) + 1) ++ num k
/-- The first block of a base, from one place on, that some bytes begin with. -/
def blockF (base b : List UInt8) : Nat → Nat → Option Nat
  | 0, _ => none
  | f + 1, k => if k + 16 ≤ base.length then (if (base.drop k).take 16 = b.take 16 then some k else blockF base b f (k + 16)) else none
def blockAt (base b : List UInt8) : Option Nat := if 16 ≤ b.length then blockF base b base.length 0 else none
/-- The middle's tokens: at a place, with bytes passed over from another one on. -/
def mid (base m : List UInt8) : Nat → Nat → Nat → List UInt8
  | 0, _, frm => runB (m.drop frm)
  | f + 1, i, frm =>
    if i < m.length then
      match blockAt base (m.drop i) with
      | none => mid base m f (i + 1) frm
      | some k => runB ((m.drop frm).take (i - frm)) ++ (copyOf (begins (base.drop k) (m.drop i)) k ++ mid base m f (i + begins (base.drop k) (m.drop i)) (i + begins (base.drop k) (m.drop i)))
    else runB (m.drop frm)
def midL (base m : List UInt8) : List UInt8 := mid base m m.length 0 0
def encL (base target : List UInt8) : List UInt8 :=
  num base.length ++ (num target.length ++ (copyOf (begins base target) 0 ++
    (midL base ((target.drop (begins base target)).take (target.length - begins base target - ends (base.drop (begins base target)) (target.drop (begins base target)))) ++
      copyOf (ends (base.drop (begins base target)) (target.drop (begins base target))) (base.length - ends (base.drop (begins base target)) (target.drop (begins base target))))))

/-- The target again: tokens till there are none. -/
def dF (base : List UInt8) (size : Nat) : Nat → List UInt8 → List UInt8 → Option (List UInt8)
  | _, out, [] => if out.length = size then some out else none
  | 0, _, _ :: _ => none
  | f + 1, out, c :: q =>
    match takeNum (c :: q) with
    | none => none
    | some (t, rest) =>
      if t % 2 = 0 then
        if t / 2 + 1 ≤ size - out.length ∧ t / 2 + 1 ≤ rest.length then dF base size f (out ++ rest.take (t / 2 + 1)) (rest.drop (t / 2 + 1)) else none
      else
        match takeNum rest with
        | none => none
        | some (d, rest2) => if t / 2 + 1 ≤ size - out.length ∧ d + (t / 2 + 1) ≤ base.length then dF base size f (out ++ (base.drop d).take (t / 2 + 1)) rest2 else none
def dGo (base : List UInt8) (size : Nat) (out p : List UInt8) : Option (List UInt8) := dF base size p.length out p
def applyL (base d : List UInt8) (most : Int) : Option (List UInt8) :=
  match takeNum d with
  | none => none
  | some (n, p) =>
    if n = base.length then
      match takeNum p with
      | none => none
      | some (size, q) => if (size : Int) ≤ most then dGo base size [] q else none
    else none

theorem dF_fuel (base : List UInt8) (size : Nat) : ∀ (f g : Nat) (out p : List UInt8), p.length ≤ f → p.length ≤ g → dF base size f out p = dF base size g out p := by
  intro f
  induction f with
  | zero =>
    intro g out p hf hg
    obtain rfl : p = [] := List.eq_nil_of_length_eq_zero (by omega)
    cases g <;> rfl
  | succ f ih =>
    intro g out p hf hg
    cases p with
    | nil => cases g <;> rfl
    | cons c q =>
      cases g with
      | zero => simp at hg
      | succ g =>
        rw [dF, dF]
        cases ht : takeNum (c :: q) with
        | none => rfl
        | some x =>
          obtain ⟨t, rest⟩ := x
          have hl := takeNum_less ht
          simp only [List.length_cons] at hl hf hg
          simp only
          split
          · split
            · exact ih g _ _ (by rw [List.length_drop]; omega) (by rw [List.length_drop]; omega)
            · rfl
          · cases ht2 : takeNum rest with
            | none => rfl
            | some y =>
              obtain ⟨d, rest2⟩ := y
              have hl2 := takeNum_less ht2
              simp only
              split
              · exact ih g _ _ (by omega) (by omega)
              · rfl
theorem dGo_nil (base : List UInt8) (size : Nat) (out : List UInt8) : dGo base size out [] = if out.length = size then some out else none := rfl
theorem dGo_none {base : List UInt8} {size : Nat} {out p : List UInt8} (hp : p ≠ []) (h : takeNum p = none) : dGo base size out p = none := by
  cases p with
  | nil => exact absurd rfl hp
  | cons c q => unfold dGo; rw [List.length_cons, dF, h]
theorem dGo_run {base : List UInt8} {size : Nat} {out p : List UInt8} {t : Nat} {rest : List UInt8} (h : takeNum p = some (t, rest)) (ht : t % 2 = 0) :
    dGo base size out p = if t / 2 + 1 ≤ size - out.length ∧ t / 2 + 1 ≤ rest.length then dGo base size (out ++ rest.take (t / 2 + 1)) (rest.drop (t / 2 + 1)) else none := by
  have hl := takeNum_less h
  cases p with
  | nil => simp at hl
  | cons c q =>
    unfold dGo
    rw [List.length_cons, dF, h]
    simp only
    rw [if_pos ht]
    split
    · rw [dF_fuel]
      · rw [List.length_drop, List.length_cons] at *; omega
      · exact Nat.le_refl _
    · rfl
theorem dGo_copy {base : List UInt8} {size : Nat} {out p : List UInt8} {t : Nat} {rest : List UInt8} (h : takeNum p = some (t, rest)) (ht : t % 2 = 1) {d : Nat} {rest2 : List UInt8} (h2 : takeNum rest = some (d, rest2)) :
    dGo base size out p = if t / 2 + 1 ≤ size - out.length ∧ d + (t / 2 + 1) ≤ base.length then dGo base size (out ++ (base.drop d).take (t / 2 + 1)) rest2 else none := by
  have hl := takeNum_less h
  have hl2 := takeNum_less h2
  cases p with
  | nil => simp at hl
  | cons c q =>
    unfold dGo
    rw [List.length_cons, dF, h]
    simp only
    rw [if_neg (by omega), h2]
    simp only
    split
    · rw [dF_fuel]
      · rw [List.length_cons] at *; omega
      · exact Nat.le_refl _
    · rfl
theorem dGo_copy_none {base : List UInt8} {size : Nat} {out p : List UInt8} {t : Nat} {rest : List UInt8} (h : takeNum p = some (t, rest)) (ht : t % 2 = 1) (h2 : takeNum rest = none) : dGo base size out p = none := by
  have hl := takeNum_less h
  cases p with
  | nil => simp at hl
  | cons c q =>
    unfold dGo
    rw [List.length_cons, dF, h]
    simp only
    rw [if_neg (by omega), h2]
theorem dGo_big {base : List UInt8} {size : Nat} {out p : List UInt8} {t : Nat} {rest : List UInt8} (h : takeNum p = some (t, rest)) (hb : ¬ (t / 2 + 1 ≤ size - out.length)) : dGo base size out p = none := by
  by_cases he : t % 2 = 0
  · rw [dGo_run h he, if_neg (fun hh => hb hh.1)]
  · cases h2 : takeNum rest with
    | none => exact dGo_copy_none h (by omega) h2
    | some y => rw [dGo_copy h (by omega) h2, if_neg (fun hh => hb hh.1)]
theorem d_lt {base : List UInt8} {size : Nat} {out p r : List UInt8} (hp : p ≠ []) (h : dGo base size out p = some r) : out.length < size := by
  cases ht : takeNum p with
  | none => rw [dGo_none hp ht] at h; cases h
  | some x =>
    obtain ⟨t, rest⟩ := x
    by_cases he : t % 2 = 0
    · rw [dGo_run ht he] at h
      split at h
      · omega
      · cases h
    · cases ht2 : takeNum rest with
      | none => rw [dGo_copy_none ht (by omega) ht2] at h; cases h
      | some y =>
        obtain ⟨d, rest2⟩ := y
        rw [dGo_copy ht (by omega) ht2] at h
        split at h
        · omega
        · cases h
theorem d_cut {base : List UInt8} {size : Nat} {r : List UInt8} : ∀ (m : Nat) (out p : List UInt8) (q : Nat), p.length ≤ m → dGo base size out p = some r → q < p.length → dGo base size out (p.take q) = none := by
  intro m
  induction m with
  | zero => intro out p q h1 _ h3; omega
  | succ m ih =>
    intro out p q h1 h h3
    have hp : p ≠ [] := fun e => by rw [e] at h3; simp at h3
    have hlt := d_lt hp h
    rcases Nat.eq_zero_or_pos q with hq | hq
    · rw [hq, List.take_zero, dGo_nil, if_neg (by omega)]
    have hne : p.take q ≠ [] := fun e => by
      have h0 : (p.take q).length = 0 := by rw [e]; rfl
      rw [List.length_take] at h0
      omega
    cases ht : takeNum p with
    | none => rw [dGo_none hp ht] at h; cases h
    | some x =>
      obtain ⟨t, rest⟩ := x
      obtain ⟨e1, hm1⟩ := num_takeNum ht
      rcases Nat.lt_or_ge q (num t).length with hqn | hqn
      · refine dGo_none hne ?_
        rw [e1, cut_lt hqn]
        exact takeNum_cut' hm1 hqn
      · have ht' : takeNum (p.take q) = some (t, rest.take (q - (num t).length)) := by
          rw [e1, cut_app hqn]
          exact takeNum_num t _ hm1
        have hlen : p.length = (num t).length + rest.length := by rw [e1, List.length_append]
        have hnp := num_pos t
        by_cases he : t % 2 = 0
        · rw [dGo_run ht he] at h
          rw [dGo_run ht' he]
          split at h
          · rename_i hc
            by_cases hc2 : t / 2 + 1 ≤ (rest.take (q - (num t).length)).length
            · rw [if_pos ⟨hc.1, hc2⟩]
              rw [List.length_take] at hc2
              have h5 : (rest.take (q - (num t).length)).take (t / 2 + 1) = rest.take (t / 2 + 1) := by rw [List.take_take]; congr 1; omega
              have h6 : (rest.take (q - (num t).length)).drop (t / 2 + 1) = (rest.drop (t / 2 + 1)).take (q - (num t).length - (t / 2 + 1)) := List.drop_take
              rw [h5, h6]
              exact ih _ _ _ (by rw [List.length_drop]; omega) h (by rw [List.length_drop]; omega)
            · rw [if_neg (fun hh => hc2 hh.2)]
          · cases h
        · cases ht2 : takeNum rest with
          | none => rw [dGo_copy_none ht (by omega) ht2] at h; cases h
          | some y =>
            obtain ⟨d, rest2⟩ := y
            obtain ⟨e2, hm2⟩ := num_takeNum ht2
            rw [dGo_copy ht (by omega) ht2] at h
            split at h
            · rename_i hc
              have hlen2 : rest.length = (num d).length + rest2.length := by rw [e2, List.length_append]
              rcases Nat.lt_or_ge (q - (num t).length) (num d).length with hqd | hqd
              · refine dGo_copy_none ht' (by omega) ?_
                rw [e2, cut_lt hqd]
                exact takeNum_cut' hm2 hqd
              · have ht2' : takeNum (rest.take (q - (num t).length)) = some (d, rest2.take (q - (num t).length - (num d).length)) := by
                  rw [e2, cut_app hqd]
                  exact takeNum_num d _ hm2
                rw [dGo_copy ht' (by omega) ht2', if_pos hc]
                exact ih _ _ _ (by omega) h (by omega)
            · cases h
theorem d_more {base : List UInt8} {size : Nat} {r : List UInt8} (x : UInt8) : ∀ (m : Nat) (out p : List UInt8), p.length ≤ m → dGo base size out p = some r → dGo base size out (p ++ [x]) = none := by
  have hone : ∀ out : List UInt8, out.length = size → dGo base size out [x] = none := by
    intro out hs
    cases ht : takeNum [x] with
    | none => exact dGo_none (by simp) ht
    | some y =>
      obtain ⟨t, rest⟩ := y
      have hl := takeNum_less ht
      have hr : rest = [] := List.eq_nil_of_length_eq_zero (by simp at hl; simp [hl])
      by_cases he : t % 2 = 0
      · rw [dGo_run ht he, if_neg (by omega)]
      · exact dGo_copy_none ht (by omega) (by rw [hr]; decide)
  intro m
  induction m with
  | zero =>
    intro out p h1 h
    obtain rfl : p = [] := List.eq_nil_of_length_eq_zero (by omega)
    rw [dGo_nil] at h
    split at h
    · exact hone out (by assumption)
    · cases h
  | succ m ih =>
    intro out p h1 h
    by_cases hp : p = []
    · subst hp
      rw [dGo_nil] at h
      split at h
      · exact hone out (by assumption)
      · cases h
    cases ht : takeNum p with
    | none => rw [dGo_none hp ht] at h; cases h
    | some y =>
      obtain ⟨t, rest⟩ := y
      obtain ⟨e1, hm1⟩ := num_takeNum ht
      have ht' : takeNum (p ++ [x]) = some (t, rest ++ [x]) := by rw [e1, List.append_assoc]; exact takeNum_num t _ hm1
      have hl := takeNum_less ht
      by_cases he : t % 2 = 0
      · rw [dGo_run ht he] at h
        rw [dGo_run ht' he]
        split at h
        · rename_i hc
          rw [if_pos ⟨hc.1, by rw [List.length_append]; omega⟩, List.take_append_of_le_length hc.2, List.drop_append_of_le_length hc.2]
          exact ih _ _ (by rw [List.length_drop]; omega) h
        · cases h
      · cases ht2 : takeNum rest with
        | none => rw [dGo_copy_none ht (by omega) ht2] at h; cases h
        | some z =>
          obtain ⟨d, rest2⟩ := z
          obtain ⟨e2, hm2⟩ := num_takeNum ht2
          have ht2' : takeNum (rest ++ [x]) = some (d, rest2 ++ [x]) := by rw [e2, List.append_assoc]; exact takeNum_num d _ hm2
          have hl2 := takeNum_less ht2
          rw [dGo_copy ht (by omega) ht2] at h
          rw [dGo_copy ht' (by omega) ht2']
          split at h
          · rename_i hc
            rw [if_pos hc]
            exact ih _ _ (by omega) h
          · cases h
end Go.Dol

namespace Go.Dol
set_option linter.unusedVariables false

theorem begins_le (a b : List UInt8) : begins a b ≤ a.length ∧ begins a b ≤ b.length := cnt_le _ _ _
theorem begins_same {a b : List UInt8} {j : Nat} (h : j < begins a b) : a[j]? = b[j]? := cnt_same _ _ _ _ h
theorem begins_ge {a b : List UInt8} {n : Nat} (h1 : n ≤ a.length) (h2 : n ≤ b.length) (h : ∀ j, j < n → a[j]? = b[j]?) : n ≤ begins a b := cnt_ge _ _ _ _ h1 h1 h2 h
theorem begins_take {a b : List UInt8} {n : Nat} (h : n ≤ begins a b) : a.take n = b.take n := by
  apply List.ext_getElem?
  intro j
  rw [List.getElem?_take, List.getElem?_take]
  split
  · exact begins_same (by omega)
  · rfl
theorem begins_of_take {a b : List UInt8} {n : Nat} (h1 : n ≤ a.length) (h2 : n ≤ b.length) (h : a.take n = b.take n) : n ≤ begins a b := by
  refine begins_ge h1 h2 fun j hj => ?_
  have := congrArg (fun l => l[j]?) h
  simp only [List.getElem?_take, if_pos hj] at this
  exact this
theorem ends_le (a b : List UInt8) : ends a b ≤ a.length ∧ ends a b ≤ b.length := by
  have := begins_le a.reverse b.reverse
  simpa [ends] using this
theorem ends_drop (a b : List UInt8) : a.drop (a.length - ends a b) = b.drop (b.length - ends a b) := by
  have h : a.reverse.take (ends a b) = b.reverse.take (ends a b) := begins_take (Nat.le_refl _)
  rw [List.take_reverse, List.take_reverse] at h
  exact List.reverse_inj.1 h
theorem ends_ge {a b : List UInt8} {n : Nat} (h1 : n ≤ a.length) (h2 : n ≤ b.length) (h : a.drop (a.length - n) = b.drop (b.length - n)) : n ≤ ends a b := by
  refine begins_of_take (by simpa using h1) (by simpa using h2) ?_
  rw [List.take_reverse, List.take_reverse, h]

theorem blockF_spec {base b : List UInt8} : ∀ (f k k' : Nat), blockF base b f k = some k' → k' + 16 ≤ base.length ∧ (base.drop k').take 16 = b.take 16 := by
  intro f
  induction f with
  | zero => intro k k' h; cases h
  | succ f ih =>
    intro k k' h
    rw [blockF] at h
    split at h
    · split at h
      · injection h with h
        subst h
        exact ⟨by assumption, by assumption⟩
      · exact ih _ _ h
    · cases h
theorem blockAt_spec {base b : List UInt8} {k : Nat} (h : blockAt base b = some k) : k + 16 ≤ base.length ∧ 16 ≤ begins (base.drop k) b := by
  unfold blockAt at h
  split at h
  · have := blockF_spec _ _ _ h
    exact ⟨this.1, begins_of_take (by rw [List.length_drop]; omega) (by assumption) this.2⟩
  · cases h

theorem d_run {base : List UInt8} {size : Nat} {out x rest : List UInt8} (hx : x.length ≤ mostLen) (hs : x.length ≤ size - out.length) : dGo base size out (runB x ++ rest) = dGo base size (out ++ x) rest := by
  by_cases h0 : x = []
  · subst h0
    simp [runB]
  · have hp : 0 < x.length := List.length_pos_iff.2 h0
    unfold runB
    rw [if_neg h0, List.append_assoc]
    have ht := takeNum_num (2 * (x.length - 1)) (x ++ rest) (by unfold mostNum; unfold mostLen at hx; omega)
    rw [dGo_run ht (by omega), show 2 * (x.length - 1) / 2 + 1 = x.length by omega, if_pos ⟨hs, by rw [List.length_append]; omega⟩, List.take_left, List.drop_left]
theorem d_copy {base : List UInt8} {size n k : Nat} {out rest : List UInt8} (hb : base.length ≤ mostLen) (hs : n ≤ size - out.length) (hk : k + n ≤ base.length) : dGo base size out (copyOf n k ++ rest) = dGo base size (out ++ (base.drop k).take n) rest := by
  by_cases h0 : n = 0
  · subst h0
    simp [copyOf]
  · unfold copyOf
    rw [if_neg h0, List.append_assoc]
    have ht := takeNum_num (2 * (n - 1) + 1) (num k ++ rest) (by unfold mostNum; unfold mostLen at hb; omega)
    have ht2 := takeNum_num k rest (by unfold mostNum; unfold mostLen at hb; omega)
    rw [dGo_copy ht (by omega) ht2, show (2 * (n - 1) + 1) / 2 + 1 = n by omega, if_pos ⟨hs, hk⟩]
theorem d_mid {base m : List UInt8} {size : Nat} {out rest : List UInt8} (hb : base.length ≤ mostLen) (hm : m.length ≤ mostLen) (hs : out.length + m.length ≤ size) : ∀ (f i frm : Nat), m.length - i ≤ f → frm ≤ i → i ≤ m.length →
    dGo base size (out ++ m.take frm) (mid base m f i frm ++ rest) = dGo base size (out ++ m) rest := by
  have hend : ∀ frm, frm ≤ m.length → dGo base size (out ++ m.take frm) (runB (m.drop frm) ++ rest) = dGo base size (out ++ m) rest := fun frm hf => by
    rw [d_run (by rw [List.length_drop]; omega) (by rw [List.length_drop, List.length_append, List.length_take]; omega), List.append_assoc, List.take_append_drop]
  intro f
  induction f with
  | zero => intro i frm h1 h2 h3; rw [mid]; exact hend frm (by omega)
  | succ f ih =>
    intro i frm h1 h2 h3
    rw [mid]
    split
    · cases hk : blockAt base (m.drop i) with
      | none => exact ih _ _ (by omega) (by omega) (by omega)
      | some k =>
        have hsp := blockAt_spec hk
        have hl := begins_le (base.drop k) (m.drop i)
        have htk := begins_take (a := base.drop k) (b := m.drop i) (Nat.le_refl _)
        rw [List.length_drop, List.length_drop] at hl
        simp only [List.append_assoc]
        obtain ⟨g, hg⟩ : ∃ g, g = begins (base.drop k) (m.drop i) := ⟨_, rfl⟩
        rw [← hg] at hl hsp htk ⊢
        have e1 : out ++ (m.take frm ++ (m.drop frm).take (i - frm)) = out ++ m.take i := by
          congr 1
          rw [← List.take_add]
          congr 1
          omega
        have e2 : out ++ (m.take i ++ (base.drop k).take g) = out ++ m.take (i + g) := by
          congr 1
          rw [htk, ← List.take_add]
        rw [d_run (by rw [List.length_take, List.length_drop]; omega) (by rw [List.length_take, List.length_drop, List.length_append, List.length_take]; omega), List.append_assoc, e1,
          d_copy hb (by rw [List.length_append, List.length_take]; omega) (by omega), List.append_assoc, e2]
        exact ih _ _ (by omega) (Nat.le_refl _) (by omega)
    · exact hend frm (by omega)
/-- There and back, in as much room as it wants. -/
theorem apply_enc {base target : List UInt8} (hb : base.length ≤ mostLen) (ht : target.length ≤ mostLen) (most : Int) : applyL base (encL base target) most = if (target.length : Int) ≤ most then some target else none := by
  have hp := begins_le base target
  have hpt := begins_take (a := base) (b := target) (Nat.le_refl _)
  have he := ends_le (base.drop (begins base target)) (target.drop (begins base target))
  have hed := ends_drop (base.drop (begins base target)) (target.drop (begins base target))
  unfold applyL encL
  rw [takeNum_num _ _ (by unfold mostNum; unfold mostLen at hb; omega)]
  simp only
  rw [if_pos trivial, takeNum_num _ _ (by unfold mostNum; unfold mostLen at ht; omega)]
  simp only
  obtain ⟨p, hp'⟩ : ∃ p, p = begins base target := ⟨_, rfl⟩
  rw [← hp'] at hp hpt he hed ⊢
  obtain ⟨e, he'⟩ : ∃ e, e = ends (base.drop p) (target.drop p) := ⟨_, rfl⟩
  rw [← he'] at he hed ⊢
  rw [List.length_drop, List.length_drop] at he
  rw [List.length_drop, List.length_drop, List.drop_drop, List.drop_drop, show p + (base.length - p - e) = base.length - e by omega, show p + (target.length - p - e) = target.length - e by omega] at hed
  have hml : ((target.drop p).take (target.length - p - e)).length = target.length - p - e := by rw [List.length_take, List.length_drop]; omega
  have h1 := d_mid (base := base) (m := (target.drop p).take (target.length - p - e)) (size := target.length) (out := [] ++ (base.drop 0).take p) (rest := copyOf e (base.length - e)) hb (by omega)
    (by rw [hml, List.nil_append, List.drop_zero, List.length_take]; omega) ((target.drop p).take (target.length - p - e)).length 0 0 (by omega) (Nat.le_refl _) (Nat.zero_le _)
  have h2 := d_copy (base := base) (size := target.length) (n := e) (k := base.length - e) (out := ([] ++ (base.drop 0).take p) ++ (target.drop p).take (target.length - p - e)) (rest := []) hb
    (by rw [List.length_append, hml, List.nil_append, List.drop_zero, List.length_take]; omega) (by omega)
  rw [List.take_zero, List.append_nil] at h1
  rw [List.append_nil] at h2
  have hall : dGo base target.length [] (copyOf p 0 ++ (midL base ((target.drop p).take (target.length - p - e)) ++ copyOf e (base.length - e))) = some target := by
    rw [d_copy hb (by simp; omega) (by omega)]
    unfold midL
    rw [h1, h2, dGo_nil]
    have e3 : ([] ++ (base.drop 0).take p) ++ (target.drop p).take (target.length - p - e) ++ (base.drop (base.length - e)).take e = target := by
      have hlast : (base.drop (base.length - e)).take e = target.drop (target.length - e) := by rw [List.take_of_length_le (by rw [List.length_drop]; omega), hed]
      rw [hlast, List.nil_append, List.drop_zero, hpt, ← List.take_add, show p + (target.length - p - e) = target.length - e by omega, List.take_append_drop]
    rw [e3, if_pos rfl]
  rw [hall]
theorem applyL_other {base base' d : List UInt8} {n : Nat} {p : List UInt8} (h : takeNum d = some (n, p)) (hn : n ≠ base'.length) (most : Int) : applyL base' d most = none := by
  unfold applyL
  rw [h]
  simp only
  rw [if_neg hn]
theorem applyL_cut {base p r : List UInt8} {most : Int} {q : Nat} (h : applyL base p most = some r) (hq : q < p.length) : applyL base (p.take q) most = none := by
  unfold applyL at h ⊢
  cases ht : takeNum p with
  | none => rw [ht] at h; cases h
  | some y =>
    obtain ⟨n, rest⟩ := y
    rw [ht] at h
    simp only at h
    obtain ⟨e1, hm1⟩ := num_takeNum ht
    have l1 := congrArg List.length e1
    rw [List.length_append] at l1
    split at h
    · rename_i hn
      rcases Nat.lt_or_ge q (num n).length with hqn | hqn
      · rw [e1, cut_lt hqn, takeNum_cut' hm1 hqn]
      · have ht' : takeNum (p.take q) = some (n, rest.take (q - (num n).length)) := by rw [e1, cut_app hqn]; exact takeNum_num n _ hm1
        rw [ht']
        simp only
        rw [if_pos hn]
        cases ht2 : takeNum rest with
        | none => rw [ht2] at h; cases h
        | some z =>
          obtain ⟨size, rest2⟩ := z
          rw [ht2] at h
          simp only at h
          obtain ⟨e2, hm2⟩ := num_takeNum ht2
          have l2 := congrArg List.length e2
          rw [List.length_append] at l2
          split at h
          · rename_i hc
            rcases Nat.lt_or_ge (q - (num n).length) (num size).length with hqs | hqs
            · rw [e2, cut_lt hqs, takeNum_cut' hm2 hqs]
            · have ht2' : takeNum (rest.take (q - (num n).length)) = some (size, rest2.take (q - (num n).length - (num size).length)) := by rw [e2, cut_app hqs]; exact takeNum_num size _ hm2
              rw [ht2']
              simp only
              rw [if_pos hc]
              exact d_cut _ _ _ _ (Nat.le_refl _) h (by omega)
          · cases h
    · cases h
theorem applyL_more {base p r : List UInt8} {most : Int} (x : UInt8) (h : applyL base p most = some r) : applyL base (p ++ [x]) most = none := by
  unfold applyL at h ⊢
  cases ht : takeNum p with
  | none => rw [ht] at h; cases h
  | some y =>
    obtain ⟨n, rest⟩ := y
    rw [ht] at h
    simp only at h
    obtain ⟨e1, hm1⟩ := num_takeNum ht
    split at h
    · rename_i hn
      have ht' : takeNum (p ++ [x]) = some (n, rest ++ [x]) := by rw [e1, List.append_assoc]; exact takeNum_num n _ hm1
      rw [ht']
      simp only
      rw [if_pos hn]
      cases ht2 : takeNum rest with
      | none => rw [ht2] at h; cases h
      | some z =>
        obtain ⟨size, rest2⟩ := z
        rw [ht2] at h
        simp only at h
        obtain ⟨e2, hm2⟩ := num_takeNum ht2
        split at h
        · rename_i hc
          have ht2' : takeNum (rest ++ [x]) = some (size, rest2 ++ [x]) := by rw [e2, List.append_assoc]; exact takeNum_num size _ hm2
          rw [ht2']
          simp only
          rw [if_pos hc]
          exact d_more x _ _ _ (Nat.le_refl _) h
        · cases h
    · cases h
theorem encL_pos (base target : List UInt8) : 0 < (encL base target).length := by
  unfold encL
  rw [List.length_append]
  have := num_pos base.length
  omega

/-- What it costs. -/
theorem copyOf_cost {n k : Nat} (hn : n ≤ 1048576) (hk : k < 2097152) : (copyOf n k).length ≤ 6 := by
  unfold copyOf
  split
  · simp
  · rw [List.length_append]
    have := num3 (n := 2 * (n - 1) + 1) (by omega)
    have := num3 hk
    omega
theorem copyOf_cost0 {n : Nat} (hn : n ≤ 1048576) : (copyOf n 0).length ≤ 4 := by
  unfold copyOf
  split
  · simp
  · rw [List.length_append]
    have := num3 (n := 2 * (n - 1) + 1) (by omega)
    have := num1 (n := 0) (by omega)
    omega
theorem mid_cost {base m : List UInt8} (hb : base.length ≤ 1048576) (hm : m.length ≤ 1048576) : ∀ (f i frm : Nat), frm ≤ i → i ≤ m.length → (mid base m f i frm).length ≤ m.length - frm + 3 := by
  have hend : ∀ frm, frm ≤ m.length → (runB (m.drop frm)).length ≤ m.length - frm + 3 := fun frm hf => by
    have := (runB_cost (m.drop frm) (by rw [List.length_drop]; omega)).2.2.2
    rw [List.length_drop] at this
    exact this
  intro f
  induction f with
  | zero => intro i frm h1 h2; rw [mid]; exact hend frm (by omega)
  | succ f ih =>
    intro i frm h1 h2
    rw [mid]
    split
    · cases hk : blockAt base (m.drop i) with
      | none => exact ih _ _ (by omega) (by omega)
      | some k =>
        have hsp := blockAt_spec hk
        have hl := begins_le (base.drop k) (m.drop i)
        rw [List.length_drop, List.length_drop] at hl
        simp only
        obtain ⟨g, hg⟩ : ∃ g, g = begins (base.drop k) (m.drop i) := ⟨_, rfl⟩
        rw [← hg] at hl hsp ⊢
        have h3 := ih (i + g) (i + g) (Nat.le_refl _) (by omega)
        have h4 := copyOf_cost (n := g) (k := k) (by omega) (by omega)
        have h5 := (runB_cost ((m.drop frm).take (i - frm)) (by rw [List.length_take, List.length_drop]; omega)).2.2.2
        rw [List.length_take, List.length_drop] at h5
        rw [List.length_append, List.length_append]
        omega
    · exact hend frm (by omega)
theorem enc_cost {base target : List UInt8} (hb : base.length ≤ 1048576) (ht : target.length ≤ 1048576) :
    (encL base target).length ≤ target.length - begins base target - ends (base.drop (begins base target)) (target.drop (begins base target)) + 19 := by
  have hp := begins_le base target
  have he := ends_le (base.drop (begins base target)) (target.drop (begins base target))
  unfold encL midL
  obtain ⟨p, hp'⟩ : ∃ p, p = begins base target := ⟨_, rfl⟩
  rw [← hp'] at hp he ⊢
  obtain ⟨e, he'⟩ : ∃ e, e = ends (base.drop p) (target.drop p) := ⟨_, rfl⟩
  rw [← he'] at he ⊢
  rw [List.length_drop, List.length_drop] at he
  have hml : ((target.drop p).take (target.length - p - e)).length = target.length - p - e := by rw [List.length_take, List.length_drop]; omega
  have h1 := mid_cost (base := base) (m := (target.drop p).take (target.length - p - e)) hb (by omega) ((target.drop p).take (target.length - p - e)).length 0 0 (Nat.le_refl _) (Nat.zero_le _)
  have h2 := copyOf_cost0 (n := p) (by omega)
  have h3 := copyOf_cost (n := e) (k := base.length - e) (by omega) (by omega)
  have h4 := num3 (n := base.length) (by omega)
  have h5 := num3 (n := target.length) (by omega)
  simp only [List.length_append]
  omega
theorem copyOf_cost4 {n k : Nat} (hn : n ≤ 16777216) (hk : k < 268435456) : (copyOf n k).length ≤ 8 := by
  unfold copyOf
  split
  · simp
  · rw [List.length_append]
    have := num4 (n := 2 * (n - 1) + 1) (by omega)
    have := num4 hk
    omega
theorem copyOf_cost04 {n : Nat} (hn : n ≤ 16777216) : (copyOf n 0).length ≤ 5 := by
  unfold copyOf
  split
  · simp
  · rw [List.length_append]
    have := num4 (n := 2 * (n - 1) + 1) (by omega)
    have := num1 (n := 0) (by omega)
    omega
theorem mid_cost4 {base m : List UInt8} (hb : base.length ≤ 16777216) (hm : m.length ≤ 16777216) : ∀ (f i frm : Nat), frm ≤ i → i ≤ m.length → (mid base m f i frm).length ≤ m.length - frm + 4 := by
  have hend : ∀ frm, frm ≤ m.length → (runB (m.drop frm)).length ≤ m.length - frm + 4 := fun frm hf => by
    have := (runB_cost4 (m.drop frm) (by rw [List.length_drop]; omega)).2.2.2
    rw [List.length_drop] at this
    exact this
  intro f
  induction f with
  | zero => intro i frm h1 h2; rw [mid]; exact hend frm (by omega)
  | succ f ih =>
    intro i frm h1 h2
    rw [mid]
    split
    · cases hk : blockAt base (m.drop i) with
      | none => exact ih _ _ (by omega) (by omega)
      | some k =>
        have hsp := blockAt_spec hk
        have hl := begins_le (base.drop k) (m.drop i)
        rw [List.length_drop, List.length_drop] at hl
        simp only
        obtain ⟨g, hg⟩ : ∃ g, g = begins (base.drop k) (m.drop i) := ⟨_, rfl⟩
        rw [← hg] at hl hsp ⊢
        have h3 := ih (i + g) (i + g) (Nat.le_refl _) (by omega)
        have h4 := copyOf_cost4 (n := g) (k := k) (by omega) (by omega)
        have h5 := (runB_cost4 ((m.drop frm).take (i - frm)) (by rw [List.length_take, List.length_drop]; omega)).2.2.2
        rw [List.length_take, List.length_drop] at h5
        rw [List.length_append, List.length_append]
        omega
    · exact hend frm (by omega)
theorem enc_cost4 {base target : List UInt8} (hb : base.length ≤ 16777216) (ht : target.length ≤ 16777216) :
    (encL base target).length ≤ target.length - begins base target - ends (base.drop (begins base target)) (target.drop (begins base target)) + 25 := by
  have hp := begins_le base target
  have he := ends_le (base.drop (begins base target)) (target.drop (begins base target))
  unfold encL midL
  obtain ⟨p, hp'⟩ : ∃ p, p = begins base target := ⟨_, rfl⟩
  rw [← hp'] at hp he ⊢
  obtain ⟨e, he'⟩ : ∃ e, e = ends (base.drop p) (target.drop p) := ⟨_, rfl⟩
  rw [← he'] at he ⊢
  rw [List.length_drop, List.length_drop] at he
  have hml : ((target.drop p).take (target.length - p - e)).length = target.length - p - e := by rw [List.length_take, List.length_drop]; omega
  have h1 := mid_cost4 (base := base) (m := (target.drop p).take (target.length - p - e)) hb (by omega) ((target.drop p).take (target.length - p - e)).length 0 0 (Nat.le_refl _) (Nat.zero_le _)
  have h2 := copyOf_cost04 (n := p) (by omega)
  have h3 := copyOf_cost4 (n := e) (k := base.length - e) (by omega) (by omega)
  have h4 := num4 (n := base.length) (by omega)
  have h5 := num4 (n := target.length) (by omega)
  simp only [List.length_append]
  omega
theorem enc_self {base : List UInt8} (hb : base.length ≤ 1048576) : (encL base base).length ≤ 13 := by
  have hp : begins base base = base.length := Nat.le_antisymm (begins_le base base).1 (begins_ge (Nat.le_refl _) (Nat.le_refl _) fun _ _ => rfl)
  have h2 := copyOf_cost0 (n := base.length) hb
  have h4 := num3 (n := base.length) (by omega)
  unfold encL
  rw [hp, List.drop_length]
  simp [ends, begins, cnt, midL, mid, runB, copyOf] at h2 ⊢
  omega
/-- A run is all that it costs. -/
theorem enc_run {base run : List UInt8} {p q : Nat} (hpq : p ≤ q) (hq : q ≤ base.length) (hb : base.length + run.length ≤ 1048576) : (encL base (base.take p ++ (run ++ base.drop q))).length ≤ run.length + 40 := by
  obtain ⟨t, ht⟩ : ∃ t, t = base.take p ++ (run ++ base.drop q) := ⟨_, rfl⟩
  have htl : t.length = p + (run.length + (base.length - q)) := by rw [ht, List.length_append, List.length_append, List.length_take, List.length_drop]; omega
  have hc := enc_cost (base := base) (target := t) (by omega) (by omega)
  rw [← ht]
  have hbl := begins_le base t
  have hp : p ≤ begins base t := begins_of_take (by omega) (by omega) (by rw [ht, List.take_append_of_le_length (by rw [List.length_take]; omega), List.take_take, Nat.min_self])
  obtain ⟨p', hp'⟩ : ∃ x, x = begins base t := ⟨_, rfl⟩
  rw [← hp'] at hc hbl hp
  have hge : min (base.length - q) (min (base.length - p') (t.length - p')) ≤ ends (base.drop p') (t.drop p') := by
    refine ends_ge (by rw [List.length_drop]; omega) (by rw [List.length_drop]; omega) ?_
    obtain ⟨s, hs⟩ : ∃ s, s = min (base.length - q) (min (base.length - p') (t.length - p')) := ⟨_, rfl⟩
    rw [← hs, List.length_drop, List.length_drop, List.drop_drop, List.drop_drop, show p' + (base.length - p' - s) = base.length - s by omega, show p' + (t.length - p' - s) = t.length - s by omega]
    have e1 : t.drop (t.length - s) = (base.drop q).drop (base.length - q - s) := by
      rw [ht, ← List.append_assoc, List.drop_append, List.drop_eq_nil_of_le (by simp only [List.length_append, List.length_take, List.length_drop]; omega), List.nil_append]
      congr 1
      simp only [List.length_append, List.length_take, List.length_drop]
      omega
    rw [e1, List.drop_drop]
    congr 1
    omega
  omega
end Go.Dol

namespace Go.Dol
theorem begins_stop {a b : List UInt8} {n : Nat} (h1 : n ≤ a.length) (h2 : n ≤ b.length) (h : ∀ j, j < n → a[j]? = b[j]?) (hs : n = a.length ∨ n = b.length ∨ a[n]? ≠ b[n]?) : begins a b = n := by
  have h3 := begins_ge h1 h2 h
  have h4 := begins_le a b
  rcases Nat.lt_or_ge n (begins a b) with h5 | h5
  · rcases hs with hs | hs | hs
    · omega
    · omega
    · exact absurd (begins_same h5) hs
  · omega
theorem ends_stop {a b : List UInt8} {n : Nat} (h1 : n ≤ a.length) (h2 : n ≤ b.length) (h : ∀ j, j < n → a[a.length - 1 - j]? = b[b.length - 1 - j]?) (hs : n = a.length ∨ n = b.length ∨ a[a.length - 1 - n]? ≠ b[b.length - 1 - n]?) : ends a b = n := by
  unfold ends
  refine begins_stop (by simpa using h1) (by simpa using h2) (fun j hj => ?_) ?_
  · rw [List.getElem?_reverse (by omega), List.getElem?_reverse (by omega)]
    exact h j hj
  · rcases hs with hs | hs | hs
    · exact .inl (by simpa using hs)
    · exact .inr (.inl (by simpa using hs))
    · rcases Nat.lt_or_ge n a.length with h3 | h3
      · rcases Nat.lt_or_ge n b.length with h4 | h4
        · refine .inr (.inr ?_)
          rw [List.getElem?_reverse h3, List.getElem?_reverse h4]
          exact hs
        · exact .inr (.inl (by rw [List.length_reverse]; omega))
      · exact .inl (by rw [List.length_reverse]; omega)
end Go.Dol
namespace Go.Proofs.YtnaakfnbmeimaaaGreat
open Go.RowKit Go.Dol
set_option linter.unusedVariables false

def BeginsRel (a b : List UInt8) (w : World) (n : Value) (wr : World) : Prop :=
  ∃ m q : Nat, n = .int .i64 m ∧ m ≤ a.length ∧ m ≤ b.length ∧ Hid (∀ j, j < m → a[j]? = b[j]?) ∧ Hid (wr = w.drewN q)
def EndsRel (a b : List UInt8) (w : World) (n : Value) (wr : World) : Prop :=
  ∃ m q : Nat, n = .int .i64 m ∧ m ≤ a.length ∧ m ≤ b.length ∧ Hid (∀ j, j < m → a[a.length - 1 - j]? = b[b.length - 1 - j]?) ∧ Hid (wr = w.drewN q)

set_option maxRecDepth 100000 in
set_option maxHeartbeats 800000 in
theorem refbegins_calls (A : Option Addr) (a : List UInt8) (c : Nat) (A2 : Option Addr) (b : List UInt8) (c2 : Nat) (w : World) (B B2 : Nat) (hr : Rd w B 1 A a.length (bc a)) (hr2 : Rd w B2 1 A2 b.length (bc b)) (ha : a.length ≤ 140737488355328) (hb : b.length ≤ 140737488355328) :
    Calls Tryz.prog 70 #[.slice A a.length c, .slice A2 b.length c2] w fun e w' => e = .returned (.int .i64 (begins a b : Nat)) ∧ ∃ n, w' = w.drewN n := by
  go_enter Tryz.func70, Tryz.ntmps70
  go_wp2_with fail
  go_loopw [5] (fun n wr => BeginsRel a b w n wr) (fun n _ => a.length - (intOf n).toNat)
  case atStart => exact ⟨0, 0, rfl, by omega, by omega, fun j hj => by omega, rfl⟩
  case round =>
    obtain ⟨m, q, rfl, hm, hm2, hs, hwr⟩ := hrel
    have hrw : Rd wr B 1 A a.length (bc a) := by rw [hwr.out]; exact hr.drewN q
    have hrw2 : Rd wr B2 1 A2 b.length (bc b) := by rw [hwr.out]; exact hr2.drewN q
    have hm0 : (0 : Int) ≤ (m : Int) := by omega
    have f1 : IntKind.i64.wrap ((m : Int) + 1) = (m : Int) + 1 := IntWalk.i64_in _ (by omega)
    by_cases h1 : m < a.length
    · have d1 : decide ((m : Int) < (a.length : Int)) = true := by simp; omega
      have d1' : (m : Int) < (a.length : Int) := by omega
      by_cases h2 : m < b.length
      · have d2 : decide ((m : Int) < (b.length : Int)) = true := by simp; omega
        have d2' : (m : Int) < (b.length : Int) := by omega
        obtain ⟨bb, off, rfl, hbb, hcell⟩ := hrw.at_ (by omega)
        obtain ⟨bb2, off2, rfl, hbb2, hcell2⟩ := hrw2.at_ (by omega)
        have c1 := hcell m _ (bc_get a m h1)
        have c2 := hcell2 m _ (bc_get b m h2)
        have g1 : a[m]? = some a[m] := List.getElem?_eq_getElem h1
        have g2 : b[m]? = some b[m] := List.getElem?_eq_getElem h2
        obtain ⟨x, hx⟩ : ∃ x, x = (a[m]).toNat := ⟨_, rfl⟩
        obtain ⟨y, hy⟩ : ∃ y, y = (b[m]).toNat := ⟨_, rfl⟩
        rw [← hx] at c1
        rw [← hy] at c2
        have hxy : Hid (a[m]? = b[m]? ↔ x = y) := by
          unfold Hid
          rw [g1, g2, hx, hy]
          constructor
          · intro h; injection h with h; rw [h]
          · intro h; rw [UInt8.toNat_inj.1 h]
        clear hx hy g1 g2 hcell hcell2
        by_cases h3 : x = y
        · have hq := hxy.out.2 h3
          have HQ := Lib.hid hq
          clear hq hxy
          subst h3
          go_wp2_with fail
          go_quiet (fail)
          go_wp2_with fail
          refine ⟨⟨m + 1, q + nq, by go_num, by omega, by omega, ?_, ?_⟩, by simp [intOf]; omega⟩
          · intro j hj
            by_cases hjm : j = m
            · rw [hjm]; exact HQ.out
            · exact hs.out j (by omega)
          · unfold Hid; rw [hwr.out, World.drewN_drewN]
        · have hq : ¬ (a[m]? = b[m]?) := fun h => h3 (hxy.out.1 h)
          have HQ := Lib.hid hq
          have d3 : ((x : Int) == (y : Int)) = false := by simp; omega
          have hst := begins_stop (a := a) (b := b) (n := m) (by omega) (by omega) hs.out (.inr (.inr HQ.out))
          have HA := Lib.hid hst
          clear hq hxy hst
          go_wp2_with fail
          go_quiet (fail)
          go_wp2_with fail
          go_ret
          exact ⟨by rw [HA.out]; rfl, q + nq, by rw [hwr.out, World.drewN_drewN]⟩
      · have d2 : decide ((m : Int) < (b.length : Int)) = false := by simp; omega
        have d2' : ¬ ((m : Int) < (b.length : Int)) := by omega
        have hst := begins_stop (a := a) (b := b) (n := m) (by omega) (by omega) hs.out (.inr (.inl (by omega)))
        have HA := Lib.hid hst
        clear hst
        go_wp2_with fail
        go_quiet (fail)
        go_wp2_with fail
        go_ret
        exact ⟨by rw [HA.out]; rfl, q + nq, by rw [hwr.out, World.drewN_drewN]⟩
    · have d1 : decide ((m : Int) < (a.length : Int)) = false := by simp; omega
      have d1' : ¬ ((m : Int) < (a.length : Int)) := by omega
      have hst := begins_stop (a := a) (b := b) (n := m) (by omega) (by omega) hs.out (.inl (by omega))
      have HA := Lib.hid hst
      clear hst
      go_wp2_with fail
      go_quiet (fail)
      go_wp2_with fail
      go_ret
      exact ⟨by rw [HA.out]; rfl, q + nq, by rw [hwr.out, World.drewN_drewN]⟩
end Go.Proofs.YtnaakfnbmeimaaaGreat

namespace Go.Proofs.YtnaakfnbmeimaaaGreat
open Go.RowKit Go.Dol
set_option linter.unusedVariables false

/-- Bytes that are handed back, read alone. -/
def RetSD (w : World) (l : List UInt8) (e : Ending) (w' : World) : Prop :=
  ∃ (l' : List UInt8) (A : Option Addr) (c : Nat), Hid (l' = l) ∧ e = .returned (.slice A l'.length c) ∧ Rd w' w'.heap.size 1 A l'.length (bc l') ∧ Below w.heap.size w w' ∧ l'.length ≤ c ∧ c ≤ maxLen

set_option maxRecDepth 100000 in
set_option maxHeartbeats 800000 in
theorem refinsert_calls (A : Option Addr) (out : List UInt8) (c : Nat) (A2 : Option Addr) (l : List UInt8) (n c2 : Nat) (w : World) (hn : n = l.length) (hr : Rd w w.heap.size 1 A out.length (bc out)) (hc : out.length ≤ c) (hc2 : c ≤ maxLen) (hr2 : Rd w w.heap.size 1 A2 n (bc l))
    (hl : out.length + 9 + n ≤ 140737488355328) :
    Calls Tryz.prog 74 #[.slice A out.length c, .slice A2 n c2] w (RetSD w (out ++ runB l)) := by
  by_cases h0 : l = []
  · subst h0
    subst hn
    go_enter Tryz.func74, Tryz.ntmps74
    go_wp2_with fail
    go_ret
    exact ⟨out, A, c, by simp [Hid, runB], rfl, hr, Below.refl _ _, hc, hc2⟩
  · have hp : 0 < l.length := List.length_pos_iff.2 h0
    have HN := Lib.hid hn
    have hp2 : 0 < n := by omega
    have hz : ((n : Int) == 0) = false := by simp; omega
    have f1 : IntKind.i64.wrap ((n : Int) - 1) = (n : Int) - 1 := IntWalk.i64_in _ (by omega)
    have hcl : Hid (clampN (2 * ((n : Int) - 1)) = 2 * (l.length - 1)) := by unfold Hid clampN; omega
    clear hn hp
    go_enter Tryz.func74, Tryz.ntmps74
    go_wp2_with fail
    refine (RefPutNum_calls A out c _ w hr (by omega)).mono ?_
    rintro e w1 ⟨l1, A1, c1, e1, rfl, ho1, hb1, i1, i2⟩
    have hl1 : l1.length ≤ out.length + 9 := by
      rw [e1.out, List.length_append]
      have := num_length_le 8 (clampN (2 * ((n : Int) - 1))) (by have := clampN_le (2 * ((n : Int) - 1)); unfold mostNum at this; omega)
      omega
    have hr2' := (hr2.belowW hb1 (Nat.le_refl _)).more hb1.size
    go_wp2_with (at_builtin; refine app8 rfl (.tmp 14) (.tmp 15) rfl w.heap.size _ l1.length l1 rfl ho1 w1.heap.size A2 n c2 l rfl hr2' (by omega) hb1.size ?_)
    intro l2 A3 c3 w2 e2 ho2 hb2 _ _ i3 i4
    go_wp2_with fail
    go_ret
    refine ⟨l2, A3, c3, ?_, rfl, Rd.of_own ho2, hb1.trans hb2, i3, i4⟩
    unfold Hid runB
    rw [e2.out, e1.out, hcl.out, if_neg h0, List.append_assoc]

set_option maxRecDepth 100000 in
set_option maxHeartbeats 800000 in
theorem refcopyOf_calls (A : Option Addr) (out : List UInt8) (c n k : Nat) (w : World) (hr : Rd w w.heap.size 1 A out.length (bc out)) (hc : out.length ≤ c) (hc2 : c ≤ maxLen) (hn : n ≤ 1099511627776) (hk : k ≤ 1099511627776) (hl : out.length + 18 ≤ 140737488355328) :
    Calls Tryz.prog 72 #[.slice A out.length c, .int .i64 n, .int .i64 k] w (RetSD w (out ++ copyOf n k)) := by
  by_cases h0 : n = 0
  · subst h0
    go_enter Tryz.func72, Tryz.ntmps72
    go_wp2_with fail
    go_ret
    exact ⟨out, A, c, by simp [Hid, copyOf], rfl, hr, Below.refl _ _, hc, hc2⟩
  · have hz : ((n : Int) == 0) = false := by simp; omega
    have f1 : IntKind.i64.wrap ((n : Int) - 1) = (n : Int) - 1 := IntWalk.i64_in _ (by omega)
    have f2 : IntKind.i64.wrap (2 * ((n : Int) - 1)) = 2 * ((n : Int) - 1) := IntWalk.i64_in _ (by omega)
    have f3 : IntKind.i64.wrap (2 * ((n : Int) - 1) + 1) = 2 * ((n : Int) - 1) + 1 := IntWalk.i64_in _ (by omega)
    have hcl : Hid (clampN (2 * ((n : Int) - 1) + 1) = 2 * (n - 1) + 1) := by unfold Hid clampN; omega
    have hcl2 : Hid (clampN (k : Int) = k) := by unfold Hid clampN; omega
    have H0 := Lib.hid h0
    clear h0
    go_enter Tryz.func72, Tryz.ntmps72
    go_wp2_with fail
    refine (RefPutNum_calls A out c _ w hr (by omega)).mono ?_
    rintro e w1 ⟨l1, A1, c1, e1, rfl, ho1, hb1, i1, i2⟩
    have hl1 : l1.length ≤ out.length + 9 := by
      rw [e1.out, List.length_append]
      have := num_length_le 8 (clampN (2 * ((n : Int) - 1) + 1)) (by have := clampN_le (2 * ((n : Int) - 1) + 1); unfold mostNum at this; omega)
      omega
    go_wp2_with fail
    refine (RefPutNum_calls A1 l1 c1 _ w1 (Rd.of_own ho1) (by omega)).mono ?_
    rintro e w2 ⟨l2, A2, c2, e2, rfl, ho2, hb2, i3, i4⟩
    go_wp2_with fail
    go_ret
    refine ⟨l2, A2, c2, ?_, rfl, Rd.of_own ho2, hb1.next hb2, i3, i4⟩
    unfold Hid copyOf
    rw [e2.out, e1.out, hcl.out, hcl2.out, if_neg H0.out, List.append_assoc]
end Go.Proofs.YtnaakfnbmeimaaaGreat

namespace Go.Proofs.YtnaakfnbmeimaaaGreat
open Go.RowKit Go.Dol
set_option linter.unusedVariables false

theorem _root_.Go.Dol.Rd.mid {w : World} {B : Nat} {A : Option Addr} {l : List UInt8} {lo n m cap : Nat} (h : Rd w B 1 A l.length (bc l)) (hm : m = n) (h1 : lo + n ≤ l.length) (hc : l.length ≤ cap) (hne : ¬ cap = lo) : Rd w B 1 (A.map fun x => x.add lo) m (bc ((l.drop lo).take n)) := by
  subst hm
  have := h.cut (lo := lo) (hi := lo + m) (by omega) h1 hc
  rw [if_neg hne, Nat.mul_one, Nat.mul_one, bc_drop, bc_take, Nat.add_sub_cancel_left] at this
  exact this

/-- The target, or none. -/
def RetApply (w : World) (r : Option (List UInt8)) (e : Ending) (w' : World) : Prop :=
  match r with
  | none => e = .returned (.tuple #[.slice none 0 0, .int .i64 2]) ∧ Below w.heap.size w w'
  | some q => ∃ (q' : List UInt8) (A : Option Addr) (c : Nat), Hid (q' = q) ∧ e = .returned (.tuple #[.slice A q'.length c, .int .i64 0]) ∧ Rd w' w'.heap.size 1 A q'.length (bc q') ∧ Below w.heap.size w w' ∧ q'.length ≤ c ∧ c ≤ maxLen

def ApplyRel (base : List UInt8) (size : Nat) (r : Option (List UInt8)) (w : World) (p out : Value) (wr : World) : Prop :=
  ∃ (l o : List UInt8) (A Ao : Option Addr) (c co : Nat), p = .slice A l.length c ∧ out = .slice Ao o.length co ∧ Hid (r = dGo base size o l) ∧ o.length ≤ size ∧ l.length ≤ 140737488355328 ∧
    Seg wr w.heap.size 5 1 A l.length c (bc l) ∧ wr.ownsRow w.heap.size 5 1 (.slice Ao o.length co) o.length (bc o) ∧ Apart A c (.slice Ao o.length co) ∧ Below w.heap.size w wr

set_option maxRecDepth 100000 in
set_option maxHeartbeats 4000000 in
theorem refApply_calls (Ab : Option Addr) (b : List UInt8) (cb : Nat) (A : Option Addr) (l : List UInt8) (c : Nat) (most : Int) (w : World) (hrb : Rd w w.heap.size 1 Ab b.length (bc b)) (hbl : b.length ≤ 140737488355328) (hcb : b.length ≤ cb)
    (hr : Rd w w.heap.size 1 A l.length (bc l)) (hl : l.length ≤ 140737488355328) (hc : l.length ≤ c) (hm : most ≤ 70368744177664) :
    Calls Tryz.prog 82 #[.slice Ab b.length cb, .slice A l.length c, .int .i64 most] w (RetApply w (applyL b l most)) := by
  obtain ⟨r, hre⟩ : ∃ r, r = applyL b l most := ⟨_, rfl⟩
  rw [← hre]
  have HR := Lib.hid hre
  clear hre
  go_enter Tryz.func82, Tryz.ntmps82
  go_wp2_with fail
  refine (RefTakeNum_calls A l c w hr hl hc).mono ?_
  intro e w1 h1
  rcases ht : takeNum l with _ | ⟨nb, q⟩
  · rw [ht] at h1
    obtain ⟨rfl, hb1⟩ := h1
    have hn : Hid (r = none) := by unfold Hid; rw [HR.out, applyL, ht]
    clear ht
    go_wp2_with fail
    go_ret2
    rw [hn.out]
    exact ⟨rfl, hb1⟩
  rw [ht] at h1
  obtain ⟨q1, A1, c1, e1, rfl, ho1, hb1, i1, i2⟩ := h1
  have hql : q1.length < l.length := by rw [e1.out]; exact takeNum_less ht
  by_cases hnb : nb = b.length
  · have hnz : ((nb : Int) != (b.length : Int)) = false := by simp; omega
    have h2 : Hid (r = match takeNum q1 with | none => none | some (size, q2) => if (size : Int) ≤ most then dGo b size [] q2 else none) := by
      unfold Hid
      rw [HR.out, applyL, ht, e1.out]
      simp only
      rw [if_pos hnb]
      try (cases takeNum q <;> rfl)
    have HNB := Lib.hid hnb
    clear ht hnb
    have s1 := hb1.size
    go_wp2_with fail
    refine (RefTakeNum_calls A1 q1 c1 w1 (Rd.of_own ho1) (by omega) i1).mono ?_
    intro e w2 h3
    rcases ht : takeNum q1 with _ | ⟨size, q⟩
    · rw [ht] at h3
      obtain ⟨rfl, hb2⟩ := h3
      have hn : Hid (r = none) := by unfold Hid; rw [h2.out, ht]
      clear ht
      go_wp2_with fail
      go_ret2
      rw [hn.out]
      exact ⟨rfl, hb1.next hb2⟩
    rw [ht] at h3
    obtain ⟨q2, A2, c2, e2, rfl, ho2, hb2, i3, i4⟩ := h3
    have hql2 : q2.length < q1.length := by rw [e2.out]; exact takeNum_less ht
    by_cases hbig : most < (size : Int)
    · have hn : Hid (r = none) := by
        unfold Hid
        rw [h2.out, ht]
        simp only
        rw [if_neg (by omega)]
      clear ht
      go_wp2_with fail
      go_ret2
      rw [hn.out]
      exact ⟨rfl, hb1.next hb2⟩
    have hgo : Hid (r = dGo b size [] q2) := by
      unfold Hid
      rw [h2.out, ht, e2.out]
      simp only
      rw [if_pos (by omega)]
    have hsm : size ≤ 70368744177664 := by omega
    clear ht
    go_wp2_with fail
    go_loopw [9, 12] (fun p out wr => ApplyRel b size r w p out wr) (fun p _ _ => lenV p)
    case atStart =>
      exact ⟨q2, [], A2, none, c2, 0, rfl, rfl, hgo, Nat.zero_le _, by omega, (Seg.of_own ho2).lower s1, ⟨by simp [bc], .inl ⟨rfl, rfl⟩⟩, Apart.nil _ _, hb1.next hb2⟩
    case round =>
      clear ho1 hb1 hgo e1 hql ho2 hb2 e2 hql2 h2 i1 i2 i3 i4 s1
      obtain ⟨p, o, Ap, Ao, cp, co, rfl, rfl, hgo, hos, hpl, hseg, hown, hap, hbel⟩ := hrel
      have hs := hbel.size
      have hol := own_le hown
      have hpc := hseg.2.1
      rcases Nat.eq_zero_or_pos p.length with hp0 | hp0
      · have hpe : p = [] := List.eq_nil_of_length_eq_zero hp0
        have HP := Lib.hid hp0
        have hpi : ¬ ((0 : Int) < (p.length : Int)) := by omega
        have hpd : decide (0 < p.length) = false := by simp; omega
        by_cases hfin : o.length = size
        · have hq : Hid (r = some o) := by unfold Hid; rw [hgo.out, hpe, dGo_nil, if_pos hfin]
          have HF := Lib.hid hfin
          have hne : ((o.length : Int) != (size : Int)) = false := by simp; omega
          clear hpe hfin hp0
          go_wp2_with fail
          go_ret2
          rw [hq.out]
          exact ⟨o, Ao, co, rfl, rfl, Rd.of_own hown, hbel, hol.1, hol.2⟩
        · have hq : Hid (r = none) := by unfold Hid; rw [hgo.out, hpe, dGo_nil, if_neg hfin]
          have HF := Lib.hid hfin
          have hne : ((o.length : Int) != (size : Int)) = true := by simp; omega
          clear hpe hfin hp0
          go_wp2_with fail
          go_ret2
          rw [hq.out]
          exact ⟨rfl, hbel⟩
      · have hpi : (0 : Int) < (p.length : Int) := by omega
        have hpne : Hid (p ≠ []) := fun h => by rw [h] at hp0; simp at hp0
        go_wp2_with fail
        refine (RefTakeNum_calls Ap p cp wr hseg.rd hpl hpc).mono ?_
        intro e w2 h2
        rcases ht : takeNum p with _ | ⟨t, q⟩
        · rw [ht] at h2
          obtain ⟨rfl, hb2⟩ := h2
          have hn : Hid (r = none) := by unfold Hid; rw [hgo.out, dGo_none hpne.out ht]
          clear ht
          go_wp2_with fail
          go_ret2
          rw [hn.out]
          exact ⟨rfl, hbel.trans (hb2.mono hs)⟩
        rw [ht] at h2
        obtain ⟨q2, A2, c2, e2, rfl, ho2, hb2, j1, j2⟩ := h2
        have hql : q2.length < p.length := by rw [e2.out]; exact takeNum_less ht
        have htm : t ≤ 4611686018427387903 := (num_takeNum ht).2
        have HT := Lib.hid ht
        have hs2 := hb2.size
        have hown2 := own_belowW hown hb2
        have hap2 : Apart A2 c2 (.slice Ao o.length co) := Apart.new hown (Seg.of_own ho2) (Nat.le_refl _)
        have hbel2 : Below w.heap.size w w2 := hbel.trans (hb2.mono hs)
        clear ht hap hseg hown
        obtain ⟨y, hy⟩ : ∃ y, y = t / 2 := ⟨_, rfl⟩
        have hyi : (t : Int) / 2 = (y : Int) := by omega
        have hyq : (t : Int).tdiv 2 = (y : Int) := by rw [Int.tdiv_eq_ediv_of_nonneg (by omega)]; exact hyi
        have HY := Lib.hid hy
        have hyb : y ≤ 2305843009213693951 := by omega
        clear hy
        have hbadr : ¬ (y + 1 ≤ size - o.length) → Hid (r = none) := fun hh => by
          unfold Hid
          rw [hgo.out]
          exact dGo_big HT.out (by rw [← HY.out]; exact hh)
        have HBR := Lib.hid hbadr
        clear hbadr
        by_cases hroom : y + 1 ≤ size - o.length
        · have hri : ¬ ((size : Int) - (o.length : Int) < (y : Int) + 1) := by omega
          have hrd : decide ((size : Int) - (o.length : Int) < (y : Int) + 1) = false := by simp; omega
          clear HBR
          by_cases hev : t % 2 = 0
          · have hm0 : (t : Int) % 2 = 0 := by omega
            have hm1 : (t : Int).tmod 2 = 0 := by rw [Int.tmod_eq_emod_of_nonneg (by omega)]; exact hm0
            have hrun : Hid (r = if y + 1 ≤ size - o.length ∧ y + 1 ≤ q2.length then dGo b size (o ++ q2.take (y + 1)) (q2.drop (y + 1)) else none) := by
              unfold Hid
              rw [hgo.out, dGo_run HT.out hev, ← HY.out, e2.out]
            have HEV := Lib.hid hev
            clear hev
            by_cases hfit : y + 1 ≤ q2.length
            · rw [if_pos ⟨hroom, hfit⟩] at hrun
              have hfi : ¬ ((q2.length : Int) < (y : Int) + 1) := by omega
              have hfd : decide ((q2.length : Int) < (y : Int) + 1) = false := by simp; omega
              go_wp2_with (at_builtin; refine app8 rfl (.tmp 98) (.tmp 106) rfl w.heap.size _ o.length o rfl hown2 w2.heap.size A2 (y + 1) c2 (q2.take (y + 1)) rfl ((Rd.of_own ho2).head (l := q2) hfit) (by omega) (by omega) ?_)
              intro o3 Ao3 co3 w3 e3 ho3 hb3 hg3 hw3 j3 j4
              have ho3l : Hid (o3.length = o.length + (y + 1)) := by unfold Hid; rw [e3.out, List.length_append, List.length_take]; omega
              have hseg2 := Seg.of_own ho2
              have hseg3 := (hseg2.keepR hg3 hap2).lower (base' := w.heap.size) hs
              have hap3 : Apart A2 c2 (.slice Ao3 o3.length co3) := hap2.app hseg2 (Nat.le_refl _) hw3.out
              have htl := hseg3.tail8 hfit
              have hbel3 := hbel2.trans hb3
              have hr3 : Hid (r = dGo b size o3 (q2.drop (y + 1))) := by unfold Hid; rw [hrun.out, e3.out]
              have hdl : Hid ((q2.drop (y + 1)).length = q2.length - (y + 1)) := by unfold Hid; simp
              by_cases hcc : c2 = y + 1
              · rw [if_pos hcc] at htl
                have HCC := Lib.hid hcc
                go_wp2_with fail
                rw [← hdl.out] at htl ⊢
                have hz : c2 - (y + 1) = 0 := by have := HCC.out; omega
                rw [hz] at htl
                refine ⟨⟨q2.drop (y + 1), o3, A2, Ao3, 0, co3, rfl, rfl, hr3, by rw [ho3l.out]; omega, by rw [hdl.out]; omega, htl, ho3, hap3.piece (by omega) rfl, hbel3⟩, ?_⟩
                show (q2.drop (y + 1)).length < p.length
                rw [hdl.out]
                omega
              · rw [if_neg hcc, add_spelt] at htl
                have HCC := Lib.hid hcc
                go_wp2_with fail
                rw [← hdl.out] at htl ⊢
                refine ⟨⟨q2.drop (y + 1), o3, _, Ao3, c2 - (y + 1), co3, rfl, rfl, hr3, by rw [ho3l.out]; omega, by rw [hdl.out]; omega, htl, ho3, hap3.piece (by omega) (by rw [← add_spelt, segBlock_add]), hbel3⟩, ?_⟩
                show (q2.drop (y + 1)).length < p.length
                rw [hdl.out]
                omega
            · rw [if_neg (fun hh => hfit hh.2)] at hrun
              have hfi : (q2.length : Int) < (y : Int) + 1 := by omega
              have hfd : decide ((q2.length : Int) < (y : Int) + 1) = true := by simp; omega
              go_wp2_with fail
              go_ret2
              rw [hrun.out]
              exact ⟨rfl, hbel2⟩
          · have hm0 : (t : Int) % 2 = 1 := by omega
            have hm1 : (t : Int).tmod 2 = 1 := by rw [Int.tmod_eq_emod_of_nonneg (by omega)]; exact hm0
            have hod : Hid (t % 2 = 1) := by unfold Hid; omega
            clear hev
            go_wp2_with fail
            refine (RefTakeNum_calls A2 q2 c2 w2 (Rd.of_own ho2) (by omega) j1).mono ?_
            intro e w3 h3
            rcases ht : takeNum q2 with _ | ⟨d, q⟩
            · rw [ht] at h3
              obtain ⟨rfl, hb3⟩ := h3
              have hn : Hid (r = none) := by unfold Hid; rw [hgo.out, dGo_copy_none HT.out hod.out (by rw [← e2.out]; exact ht)]
              clear ht
              go_wp2_with fail
              go_ret2
              rw [hn.out]
              exact ⟨rfl, hbel2.trans (hb3.mono (Nat.le_trans hs hs2))⟩
            rw [ht] at h3
            obtain ⟨q3, A3, c3, e3, rfl, ho3, hb3, j3, j4⟩ := h3
            have hql3 : q3.length < q2.length := by rw [e3.out]; exact takeNum_less ht
            have hdm : d ≤ 4611686018427387903 := (num_takeNum ht).2
            have hcp : Hid (r = if y + 1 ≤ size - o.length ∧ d + (y + 1) ≤ b.length then dGo b size (o ++ (b.drop d).take (y + 1)) q3 else none) := by
              unfold Hid
              rw [hgo.out, dGo_copy HT.out hod.out (by rw [← e2.out]; exact ht), ← HY.out, e3.out]
            have hs3 := hb3.size
            have hbel3 := hbel2.trans (hb3.mono (Nat.le_trans hs hs2))
            have hown3 := own_belowW hown2 hb3
            have hap3 : Apart A3 c3 (.slice Ao o.length co) := Apart.new hown2 (Seg.of_own ho3) (Nat.le_refl _)
            have hseg3 := (Seg.of_own ho3).lower (base' := w.heap.size) (Nat.le_trans hs hs2)
            clear ht hown2 hap2 ho2
            by_cases hfit : d + (y + 1) ≤ b.length
            · rw [if_pos ⟨hroom, hfit⟩] at hcp
              have g1 : ¬ ((b.length : Int) < (d : Int)) := by omega
              have g1d : decide ((b.length : Int) < (d : Int)) = false := by simp; omega
              have g2 : ¬ ((b.length : Int) - (d : Int) < (y : Int) + 1) := by omega
              have g2d : decide ((b.length : Int) - (d : Int) < (y : Int) + 1) = false := by simp; omega
              have f1 : IntKind.i64.wrap ((d : Int) + (y : Int)) = (d : Int) + (y : Int) := IntWalk.i64_in _ (by omega)
              have f2 : IntKind.i64.wrap ((d : Int) + (y : Int) + 1) = (d : Int) + (y : Int) + 1 := IntWalk.i64_in _ (by omega)
              have hcd : ¬ cb = d := by omega
              have hrm : Rd w3 w.heap.size 1 (Ab.map fun x => x.add d) (d + y + 1 - d) (bc ((b.drop d).take (y + 1))) := (hrb.below hbel3).mid (by omega) hfit hcb hcd
              go_wp2_with (at_builtin; refine app8 rfl (.tmp 98) (.tmp 106) rfl w.heap.size _ o.length o rfl hown3 w.heap.size _ (d + y + 1 - d) (cb - d) ((b.drop d).take (y + 1)) rfl hrm (by omega) (by omega) ?_)
              intro o4 Ao4 co4 w4 e4 ho4 hb4 hg4 hw4 j5 j6
              have ho4l : o4.length = o.length + (y + 1) := by rw [e4.out, List.length_append, List.length_take, List.length_drop]; omega
              have ho4s : o4.length ≤ size := by omega
              have hr4 : Hid (r = dGo b size o4 q3) := by unfold Hid; rw [hcp.out, e4.out]
              clear ho4l
              go_wp2_with fail
              exact ⟨⟨q3, o4, A3, Ao4, c3, co4, rfl, rfl, hr4, ho4s, by omega, hseg3.keepR hg4 hap3, ho4, hap3.app hseg3 (Nat.le_refl _) hw4.out, hbel3.trans hb4⟩, by show q3.length < p.length; omega⟩
            · rw [if_neg (fun hh => hfit hh.2)] at hcp
              by_cases h1 : d ≤ b.length
              · have g1 : ¬ ((b.length : Int) < (d : Int)) := by omega
                have g1d : decide ((b.length : Int) < (d : Int)) = false := by simp; omega
                have g2 : ((b.length : Int) - (d : Int) < (y : Int) + 1) := by omega
                have g2d : decide ((b.length : Int) - (d : Int) < (y : Int) + 1) = true := by simp; omega
                go_wp2_with fail
                go_ret2
                rw [hcp.out]
                exact ⟨rfl, hbel3⟩
              · have g1 : (b.length : Int) < (d : Int) := by omega
                have g1d : decide ((b.length : Int) < (d : Int)) = true := by simp; omega
                go_wp2_with fail
                go_ret2
                rw [hcp.out]
                exact ⟨rfl, hbel3⟩
        · have hri : (size : Int) - (o.length : Int) < (y : Int) + 1 := by omega
          have hrd : decide ((size : Int) - (o.length : Int) < (y : Int) + 1) = true := by simp; omega
          have hn := HBR.out hroom
          go_wp2_with fail
          go_ret2
          rw [hn.out]
          exact ⟨rfl, hbel2⟩
  · have hnz : ((nb : Int) != (b.length : Int)) = true := by simp; omega
    have hn : Hid (r = none) := by unfold Hid; rw [HR.out]; exact applyL_other (base := []) ht hnb most
    clear ht
    go_wp2_with fail
    go_ret2
    rw [hn.out]
    exact ⟨rfl, hb1⟩
end Go.Proofs.YtnaakfnbmeimaaaGreat

namespace Go.Dol
set_option linter.unusedVariables false

theorem blockF_is {base b : List UInt8} : ∀ (m f k : Nat), base.length ≤ k + f → k + 16 * m + 16 ≤ base.length → (base.drop (k + 16 * m)).take 16 = b.take 16 → (∀ m', m' < m → (base.drop (k + 16 * m')).take 16 ≠ b.take 16) → blockF base b f k = some (k + 16 * m) := by
  intro m
  induction m with
  | zero =>
    intro f k hf h1 h2 _
    cases f with
    | zero => omega
    | succ f => rw [blockF, if_pos (by omega), if_pos (by simpa using h2)]; rfl
  | succ m ih =>
    intro f k hf h1 h2 h3
    cases f with
    | zero => omega
    | succ f =>
      rw [blockF, if_pos (by omega), if_neg (by simpa using h3 0 (by omega)), ih f (k + 16) (by omega) (by omega) (by rw [← h2]; congr 2; omega) fun m' hm' => ?_]
      · congr 1; omega
      · have := h3 (m' + 1) (by omega)
        rw [show k + 16 * (m' + 1) = k + 16 + 16 * m' by omega] at this
        exact this
theorem blockF_none {base b : List UInt8} : ∀ (f k : Nat), (∀ m, k + 16 * m + 16 ≤ base.length → (base.drop (k + 16 * m)).take 16 ≠ b.take 16) → blockF base b f k = none := by
  intro f
  induction f with
  | zero => intro k _; rfl
  | succ f ih =>
    intro k h
    rw [blockF]
    split
    · rw [if_neg (by simpa using h 0 (by omega))]
      refine ih _ fun m hm => ?_
      have := h (m + 1) (by omega)
      rw [show k + 16 * (m + 1) = k + 16 + 16 * m by omega] at this
      exact this
    · rfl
/-- A block as a map's key. -/
def kvB (K : List UInt8) : Value := .agg (bc K).toArray
theorem kvB_inj {K L : List UInt8} (h : kvB K = kvB L) : K = L := by
  have h1 : bc K = bc L := by
    have h2 : (bc K).toArray = (bc L).toArray := by injection h
    simpa using h2
  refine (List.map_inj_right (fun a b hab => ?_)).1 h1
  injection hab with _ hab
  exact UInt8.toNat_inj.1 (by omega)
/-- The index of the blocks below one. -/
def Idx (base : List UInt8) (n : Nat) (al : List (Value × Value)) : Prop :=
  (∀ p ∈ al, ∃ m, m < n ∧ p = (kvB ((base.drop (16 * m)).take 16), .int .i64 ((16 * m : Nat) : Int)) ∧ ∀ m', m' < m → (base.drop (16 * m')).take 16 ≠ (base.drop (16 * m)).take 16) ∧
  (∀ m, m < n → ∃ v, (kvB ((base.drop (16 * m)).take 16), v) ∈ al)
theorem Idx.nil (base : List UInt8) : Idx base 0 [] := ⟨by simp, fun m h => by omega⟩
theorem Idx.met {base : List UInt8} {n : Nat} {al : List (Value × Value)} {v : Value} (h : Idx base n al) (hm : (kvB ((base.drop (16 * n)).take 16), v) ∈ al) : Idx base (n + 1) al := by
  refine ⟨fun p hp => ?_, fun m hmn => ?_⟩
  · obtain ⟨m, h1, h2⟩ := h.1 p hp
    exact ⟨m, by omega, h2⟩
  · rcases Nat.lt_or_ge m n with h1 | h1
    · exact h.2 m h1
    · obtain rfl : m = n := by omega
      exact ⟨v, hm⟩
theorem Idx.put {base : List UInt8} {n : Nat} {al al' : List (Value × Value)} (h : Idx base n al) (hn : ∀ p ∈ al, p.1 ≠ kvB ((base.drop (16 * n)).take 16)) (hp : MPut al (kvB ((base.drop (16 * n)).take 16)) (.int .i64 ((16 * n : Nat) : Int)) al') : Idx base (n + 1) al' := by
  rcases hp with ⟨_, rfl⟩ | ⟨l, r, u0, rfl, rfl⟩
  · refine ⟨fun p hp => ?_, fun m hmn => ?_⟩
    · rcases List.mem_append.1 hp with hp | hp
      · obtain ⟨m, h1, h2⟩ := h.1 p hp
        exact ⟨m, by omega, h2⟩
      · refine ⟨n, by omega, by simpa using hp, fun m' hm' e => ?_⟩
        obtain ⟨v, hv⟩ := h.2 m' hm'
        exact hn _ hv (by rw [e])
    · rcases Nat.lt_or_ge m n with h1 | h1
      · obtain ⟨v, hv⟩ := h.2 m h1
        exact ⟨v, List.mem_append.2 (.inl hv)⟩
      · obtain rfl : m = n := by omega
        exact ⟨.int .i64 ((16 * m : Nat) : Int), List.mem_append.2 (.inr (List.mem_singleton.2 rfl))⟩
  · exact absurd rfl (hn (kvB ((base.drop (16 * n)).take 16), u0) (by simp))
/-- What is looked up in a whole index is the document's answer. -/
theorem Idx.hit {base b : List UInt8} {n : Nat} {al : List (Value × Value)} {v : Value} (h : Idx base n al) (hn : 16 * n ≤ base.length) (hb : 16 ≤ b.length) (hv : (kvB (b.take 16), v) ∈ al) : ∃ k : Nat, v = .int .i64 (k : Nat) ∧ blockAt base b = some k := by
  obtain ⟨m, h1, h2, h3⟩ := h.1 _ hv
  injection h2 with h2 h4
  have e := kvB_inj h2
  refine ⟨16 * m, h4, ?_⟩
  unfold blockAt
  rw [if_pos hb]
  have := blockF_is (base := base) (b := b) m base.length 0 (by omega) (by omega) (by rw [Nat.zero_add, e]) fun m' hm' => by rw [Nat.zero_add, e]; exact h3 m' hm'
  rw [this, Nat.zero_add]
theorem Idx.miss {base b : List UInt8} {n : Nat} {al : List (Value × Value)} (h : Idx base n al) (hn : base.length < 16 * n + 16) (hv : ∀ p ∈ al, p.1 ≠ kvB (b.take 16)) : blockAt base b = none := by
  unfold blockAt
  split
  · refine blockF_none _ _ fun m hm e => ?_
    rw [Nat.zero_add] at hm e
    obtain ⟨v, hv'⟩ := h.2 m (by omega)
    exact hv _ hv' (by rw [← e])
  · rfl
end Go.Dol

namespace Go.Proofs.YtnaakfnbmeimaaaGreat
open Go.RowKit Go.Dol
set_option linter.unusedVariables false

theorem refbegins_n (A : Option Addr) (a : List UInt8) (n c : Nat) (A2 : Option Addr) (b : List UInt8) (n2 c2 : Nat) (w : World) (B B2 : Nat) (hn : n = a.length) (hn2 : n2 = b.length) (hr : Rd w B 1 A n (bc a)) (hr2 : Rd w B2 1 A2 n2 (bc b)) (ha : n ≤ 140737488355328) (hb : n2 ≤ 140737488355328) :
    Calls Tryz.prog 70 #[.slice A n c, .slice A2 n2 c2] w fun e w' => e = .returned (.int .i64 (begins a b : Nat)) ∧ ∃ n, w' = w.drewN n := by
  subst hn
  subst hn2
  exact refbegins_calls A a c A2 b c2 w B B2 hr hr2 ha hb
def blockI (r : Option Nat) : Int := match r with | none => -1 | some k => (k : Int)
def BlockRelD (b x : List UInt8) (w : World) (k : Value) (wr : World) : Prop :=
  ∃ m q i : Nat, k = .int .i64 i ∧ Hid (i = 16 * m) ∧ i ≤ b.length ∧ Hid (∀ m', m' < m → 16 ≤ x.length → (b.drop (0 + 16 * m')).take 16 ≠ x.take 16) ∧ Hid (wr = w.drewN q)

set_option maxRecDepth 100000 in
set_option maxHeartbeats 800000 in
theorem refblock_calls (A : Option Addr) (b : List UInt8) (c : Nat) (A2 : Option Addr) (x : List UInt8) (c2 : Nat) (w : World) (B B2 : Nat) (hr : Rd w B 1 A b.length (bc b)) (hr2 : Rd w B2 1 A2 x.length (bc x)) (hc : b.length ≤ c) (hb : b.length ≤ 140737488355328) (hx : x.length ≤ 140737488355328) :
    Calls Tryz.prog 73 #[.slice A b.length c, .slice A2 x.length c2] w fun e w' => e = .returned (.int .i64 (blockI (blockAt b x))) ∧ ∃ n, w' = w.drewN n := by
  go_enter Tryz.func73, Tryz.ntmps73
  go_wp2_with fail
  go_loopw [5] (fun k wr => BlockRelD b x w k wr) (fun k _ => b.length + 1 - (intOf k).toNat)
  case atStart => exact ⟨0, 0, 0, rfl, rfl, Nat.zero_le _, fun _ h => by omega, rfl⟩
  case round =>
    obtain ⟨m, q, i, rfl, him, hi, hs, hwr⟩ := hrel
    have hrw : Rd wr B 1 A b.length (bc b) := by rw [hwr.out]; exact hr.drewN q
    have hrw2 : Rd wr B2 1 A2 x.length (bc x) := by rw [hwr.out]; exact hr2.drewN q
    have f1 : IntKind.i64.wrap ((i : Int) + 16) = (i : Int) + 16 := IntWalk.i64_in _ (by omega)
    by_cases h1 : i + 16 ≤ b.length
    · have d1 : decide ((i : Int) + 16 ≤ (b.length : Int)) = true := by simp; omega
      have d1' : (i : Int) + 16 ≤ (b.length : Int) := by omega
      by_cases h2 : 16 ≤ x.length
      · have d2 : decide ((16 : Int) ≤ (x.length : Int)) = true := by simp; omega
        have d2' : (16 : Int) ≤ (x.length : Int) := by omega
        have hcut := hrw.cut (lo := i) (hi := i + 16) (cap := c) (by omega) h1 hc
        rw [if_neg (by omega), Nat.mul_one, Nat.mul_one, bc_drop, bc_take, show i + 16 - i = 16 by omega] at hcut
        have hlen : 16 = ((b.drop i).take 16).length := by rw [List.length_take, List.length_drop]; omega
        have HLE := Lib.hid hlen
        clear hlen
        have hcc : (i : Int) + 16 ≤ (c : Int) := by omega
        have hci : ¬ c = i := by omega
        have p1 : i + 16 - i = 16 := by omega
        go_wp2_with fail
        refine (refbegins_n _ ((b.drop i).take 16) 16 _ A2 x x.length c2 wr B B2 HLE.out rfl hcut hrw2 (by omega) hx).mono ?_
        rintro e w2 ⟨rfl, q2, hw2⟩
        have hw2' : Hid (w2 = w.drewN (q + q2)) := by unfold Hid; rw [hw2, hwr.out, World.drewN_drewN]
        have hbl := begins_le ((b.drop i).take 16) x
        rw [← HLE.out] at hbl
        have hiff : Hid (begins ((b.drop i).take 16) x = 16 ↔ (b.drop i).take 16 = x.take 16) := by
          constructor
          · intro h
            have := begins_take (a := (b.drop i).take 16) (b := x) (n := 16) (by omega)
            rw [List.take_take, Nat.min_self] at this
            exact this
          · intro h
            have := begins_of_take (a := (b.drop i).take 16) (b := x) (n := 16) (by rw [← HLE.out]; exact Nat.le_refl _) h2 (by rw [List.take_take, Nat.min_self]; exact h)
            omega
        obtain ⟨g, hg⟩ : ∃ g, g = begins ((b.drop i).take 16) x := ⟨_, rfl⟩
        rw [← hg] at hiff hbl ⊢
        clear hw2 hcut hg hrw hrw2
        by_cases h3 : g = 16
        · have d3 : ((g : Int) == 16) = true := by simp; omega
          have hE := hiff.out.1 h3
          have hres : Hid (blockAt b x = some i) := by
            unfold Hid blockAt
            rw [if_pos h2, blockF_is m b.length 0 (by omega) (by have := him.out; omega) (by rw [Nat.zero_add, ← him.out]; exact hE) (fun m' hm' => hs.out m' hm' h2), Nat.zero_add, ← him.out]
          have H3 := Lib.hid h3
          clear h3 hE hiff
          go_wp2_with fail
          go_ret
          exact ⟨by rw [hres.out]; rfl, q + q2, hw2'.out⟩
        · have d3 : ((g : Int) == 16) = false := by simp; omega
          have hE : Hid (¬ (b.drop i).take 16 = x.take 16) := fun h => h3 (hiff.out.2 h)
          clear hiff
          go_wp2_with fail
          refine ⟨⟨m + 1, q + q2, i + 16, by go_num, by have := him.out; unfold Hid; omega, h1, fun m' hm' h => ?_, hw2'⟩, by simp [intOf]; omega⟩
          rcases Nat.lt_or_ge m' m with h5 | h5
          · exact hs.out m' h5 h
          · obtain rfl : m' = m := by omega
            rw [Nat.zero_add, ← him.out]
            exact hE.out
      · have d2 : decide ((16 : Int) ≤ (x.length : Int)) = false := by simp; omega
        have d2' : ¬ (16 : Int) ≤ (x.length : Int) := by omega
        go_wp2_with fail
        exact ⟨⟨m + 1, q, i + 16, by go_num, by have := him.out; unfold Hid; omega, h1, fun m' hm' h => absurd h h2, hwr⟩, by simp [intOf]; omega⟩
    · have d1 : decide ((i : Int) + 16 ≤ (b.length : Int)) = false := by simp; omega
      have d1' : ¬ (i : Int) + 16 ≤ (b.length : Int) := by omega
      have hres : Hid (blockAt b x = none) := by
        unfold Hid blockAt
        split
        · exact blockF_none _ _ fun m' hm' => hs.out m' (by have := him.out; omega) (by assumption)
        · rfl
      go_wp2_with fail
      go_ret
      exact ⟨by rw [hres.out]; rfl, q, hwr.out⟩
end Go.Proofs.YtnaakfnbmeimaaaGreat

namespace Go.Proofs.YtnaakfnbmeimaaaGreat
open Go.RowKit Go.Dol
set_option linter.unusedVariables false

set_option maxRecDepth 100000 in
set_option maxHeartbeats 800000 in
theorem refends_calls (A : Option Addr) (a : List UInt8) (c : Nat) (A2 : Option Addr) (b : List UInt8) (c2 : Nat) (w : World) (B B2 : Nat) (hr : Rd w B 1 A a.length (bc a)) (hr2 : Rd w B2 1 A2 b.length (bc b)) (ha : a.length ≤ 140737488355328) (hb : b.length ≤ 140737488355328) :
    Calls Tryz.prog 71 #[.slice A a.length c, .slice A2 b.length c2] w fun e w' => e = .returned (.int .i64 (ends a b : Nat)) ∧ ∃ n, w' = w.drewN n := by
  go_enter Tryz.func71, Tryz.ntmps71
  go_wp2_with fail
  go_loopw [5] (fun n wr => EndsRel a b w n wr) (fun n _ => a.length - (intOf n).toNat)
  case atStart => exact ⟨0, 0, rfl, by omega, by omega, fun j hj => by omega, rfl⟩
  case round =>
    obtain ⟨m, q, rfl, hm, hm2, hs, hwr⟩ := hrel
    have hrw : Rd wr B 1 A a.length (bc a) := by rw [hwr.out]; exact hr.drewN q
    have hrw2 : Rd wr B2 1 A2 b.length (bc b) := by rw [hwr.out]; exact hr2.drewN q
    have hm0 : (0 : Int) ≤ (m : Int) := by omega
    have f1 : IntKind.i64.wrap ((m : Int) + 1) = (m : Int) + 1 := IntWalk.i64_in _ (by omega)
    by_cases h1 : m < a.length
    · have d1 : decide ((m : Int) < (a.length : Int)) = true := by simp; omega
      have d1' : (m : Int) < (a.length : Int) := by omega
      by_cases h2 : m < b.length
      · have d2 : decide ((m : Int) < (b.length : Int)) = true := by simp; omega
        have d2' : (m : Int) < (b.length : Int) := by omega
        have k1 : IntKind.i64.wrap ((a.length : Int) - 1) = (a.length : Int) - 1 := IntWalk.i64_in _ (by omega)
        have k2 : IntKind.i64.wrap ((b.length : Int) - 1) = (b.length : Int) - 1 := IntWalk.i64_in _ (by omega)
        have k3 : IntKind.i64.wrap ((a.length : Int) - 1 - (m : Int)) = (a.length : Int) - 1 - (m : Int) := IntWalk.i64_in _ (by omega)
        have k4 : IntKind.i64.wrap ((b.length : Int) - 1 - (m : Int)) = (b.length : Int) - 1 - (m : Int) := IntWalk.i64_in _ (by omega)
        have p1 : ((a.length : Int) - 1 - (m : Int)).toNat = a.length - 1 - m := by omega
        have p2 : ((b.length : Int) - 1 - (m : Int)).toNat = b.length - 1 - m := by omega
        have r1 : (0 : Int) ≤ (a.length : Int) - 1 - (m : Int) := by omega
        have r2 : (0 : Int) ≤ (b.length : Int) - 1 - (m : Int) := by omega
        have r3 : (a.length : Int) - 1 - (m : Int) < (a.length : Int) := by omega
        have r4 : (b.length : Int) - 1 - (m : Int) < (b.length : Int) := by omega
        obtain ⟨bb, off, rfl, hbb, hcell⟩ := hrw.at_ (by omega)
        obtain ⟨bb2, off2, rfl, hbb2, hcell2⟩ := hrw2.at_ (by omega)
        have c1 := hcell (a.length - 1 - m) _ (bc_get a (a.length - 1 - m) (by omega))
        have c2 := hcell2 (b.length - 1 - m) _ (bc_get b (b.length - 1 - m) (by omega))
        have g1 : a[a.length - 1 - m]? = some a[a.length - 1 - m] := List.getElem?_eq_getElem (by omega)
        have g2 : b[b.length - 1 - m]? = some b[b.length - 1 - m] := List.getElem?_eq_getElem (by omega)
        obtain ⟨x, hx⟩ : ∃ x, x = (a[a.length - 1 - m]).toNat := ⟨_, rfl⟩
        obtain ⟨y, hy⟩ : ∃ y, y = (b[b.length - 1 - m]).toNat := ⟨_, rfl⟩
        rw [← hx] at c1
        rw [← hy] at c2
        have hxy : Hid (a[a.length - 1 - m]? = b[b.length - 1 - m]? ↔ x = y) := by
          unfold Hid
          rw [g1, g2, hx, hy]
          constructor
          · intro h; injection h with h; rw [h]
          · intro h; rw [UInt8.toNat_inj.1 h]
        clear hx hy g1 g2 hcell hcell2
        by_cases h3 : x = y
        · have hq := hxy.out.2 h3
          have HQ := Lib.hid hq
          clear hq hxy
          subst h3
          go_wp2_with fail
          go_quiet (fail)
          go_wp2_with fail
          refine ⟨⟨m + 1, q + nq, by go_num, by omega, by omega, ?_, ?_⟩, by simp [intOf]; omega⟩
          · intro j hj
            by_cases hjm : j = m
            · rw [hjm]; exact HQ.out
            · exact hs.out j (by omega)
          · unfold Hid; rw [hwr.out, World.drewN_drewN]
        · have hq : ¬ (a[a.length - 1 - m]? = b[b.length - 1 - m]?) := fun h => h3 (hxy.out.1 h)
          have HQ := Lib.hid hq
          have d3 : ((x : Int) == (y : Int)) = false := by simp; omega
          have hst := ends_stop (a := a) (b := b) (n := m) (by omega) (by omega) hs.out (.inr (.inr HQ.out))
          have HA := Lib.hid hst
          clear hq hxy hst
          go_wp2_with fail
          go_quiet (fail)
          go_wp2_with fail
          go_ret
          exact ⟨by rw [HA.out]; rfl, q + nq, by rw [hwr.out, World.drewN_drewN]⟩
      · have d2 : decide ((m : Int) < (b.length : Int)) = false := by simp; omega
        have d2' : ¬ ((m : Int) < (b.length : Int)) := by omega
        have hst := ends_stop (a := a) (b := b) (n := m) (by omega) (by omega) hs.out (.inr (.inl (by omega)))
        have HA := Lib.hid hst
        clear hst
        go_wp2_with fail
        go_quiet (fail)
        go_wp2_with fail
        go_ret
        exact ⟨by rw [HA.out]; rfl, q + nq, by rw [hwr.out, World.drewN_drewN]⟩
    · have d1 : decide ((m : Int) < (a.length : Int)) = false := by simp; omega
      have d1' : ¬ ((m : Int) < (a.length : Int)) := by omega
      have hst := ends_stop (a := a) (b := b) (n := m) (by omega) (by omega) hs.out (.inl (by omega))
      have HA := Lib.hid hst
      clear hst
      go_wp2_with fail
      go_quiet (fail)
      go_wp2_with fail
      go_ret
      exact ⟨by rw [HA.out]; rfl, q + nq, by rw [hwr.out, World.drewN_drewN]⟩
end Go.Proofs.YtnaakfnbmeimaaaGreat

namespace Go.Dol
open Go.RowKit
set_option linter.unusedVariables false

theorem mid_fuel (base m : List UInt8) : ∀ (f g i frm : Nat), m.length - i ≤ f → m.length - i ≤ g → mid base m f i frm = mid base m g i frm := by
  intro f
  induction f with
  | zero =>
    intro g i frm h1 h2
    cases g with
    | zero => rfl
    | succ g => rw [mid, mid, if_neg (by omega)]
  | succ f ih =>
    intro g i frm h1 h2
    cases g with
    | zero => rw [mid, mid, if_neg (by omega)]
    | succ g =>
      rw [mid, mid]
      split
      · cases hk : blockAt base (m.drop i) with
        | none => exact ih g _ _ (by omega) (by omega)
        | some k =>
          have hsp := blockAt_spec hk
          simp only
          rw [ih g _ _ (by omega) (by omega)]
      · rfl
def midG (base m : List UInt8) (i frm : Nat) : List UInt8 := mid base m (m.length - i) i frm
theorem midL_is (base m : List UInt8) : midL base m = midG base m 0 0 := rfl
theorem midG_end {base m : List UInt8} {i frm : Nat} (h : m.length ≤ i) : midG base m i frm = runB (m.drop frm) := by
  unfold midG
  rw [show m.length - i = 0 by omega]
  rfl
theorem midG_next {base m : List UInt8} {i frm : Nat} (h : i < m.length) (hk : blockAt base (m.drop i) = none) : midG base m i frm = midG base m (i + 1) frm := by
  unfold midG
  rw [show m.length - i = (m.length - (i + 1)) + 1 by omega, mid, if_pos h, hk]
theorem midG_copy {base m : List UInt8} {i frm k : Nat} (h : i < m.length) (hk : blockAt base (m.drop i) = some k) :
    midG base m i frm = runB ((m.drop frm).take (i - frm)) ++ (copyOf (begins (base.drop k) (m.drop i)) k ++ midG base m (i + begins (base.drop k) (m.drop i)) (i + begins (base.drop k) (m.drop i))) := by
  have hsp := blockAt_spec hk
  unfold midG
  rw [show m.length - i = (m.length - (i + 1)) + 1 by omega, mid, if_pos h, hk]
  simp only
  rw [mid_fuel base m _ (m.length - (i + begins (base.drop k) (m.drop i))) _ _ (by omega) (Nat.le_refl _)]
theorem midG_short {base m : List UInt8} : ∀ (d i frm : Nat), m.length - i ≤ d → m.length < i + 16 → midG base m i frm = runB (m.drop frm) := by
  intro d
  induction d with
  | zero => intro i frm h1 h2; exact midG_end (by omega)
  | succ d ih =>
    intro i frm h1 h2
    rcases Nat.lt_or_ge i m.length with h | h
    · rw [midG_next h (by unfold blockAt; rw [if_neg (by rw [List.length_drop]; omega)])]
      exact ih _ _ (by omega) (by omega)
    · exact midG_end h
theorem enc_parts (base target : List UInt8) {p e : Nat} (hp : p = begins base target) (he : e = ends (base.drop p) (target.drop p)) :
    encL base target = num base.length ++ (num target.length ++ (copyOf p 0 ++ (midG base ((target.drop p).take (target.length - p - e)) 0 0 ++ copyOf e (base.length - e)))) := by
  subst hp
  subst he
  rfl

section
variable {P : Program} {w : World} {B : Nat} {A : Option Addr} {l : List UInt8} {c : Nat} {t e : TypeId}
theorem run_sliceAt8 (w : World) (ht : P.underlying t = some (.slice e)) (x : Value) (lo hi mx : Option Value) : (Instr.sliceAt t x lo hi mx).run P w = (Instr.slice t x lo hi mx).run P w := by
  simp [Instr.sliceAt, run_underlying ht]
end
end Go.Dol

namespace Go.Proofs.YtnaakfnbmeimaaaGreat
open Go.RowKit Go.Dol
set_option linter.unusedVariables false

theorem clampN_ofD {k : Nat} (h : k ≤ 4611686018427387903) : clampN (k : Int) = k := by unfold clampN; omega
theorem _root_.Go.Dol.Rd.aliveD {w w' : World} {A : Option Addr} {n : Nat} {xs : List Value} {size : Nat} (h : Rd w w.heap.size size A n xs) (hb : Below w.heap.size w w') : Rd w' w'.heap.size size A n xs := (h.below hb).more hb.size
theorem drewN_below (w : World) (n : Nat) : Below w.heap.size w (w.drewN n) := (Below.refl _ _).drewN' n

def EncRel (T tail base m : List UInt8) (w : World) (out frm i : Value) (wr : World) : Prop :=
  ∃ (k f : Nat) (l : List UInt8) (A1 : Option Addr) (c1 : Nat), out = .slice A1 l.length c1 ∧ frm = .int .i64 f ∧ i = .int .i64 k ∧ f ≤ k ∧ k ≤ m.length ∧ Hid (T = l ++ (midG base m k f ++ tail)) ∧
    Rd wr wr.heap.size 1 A1 l.length (bc l) ∧ Below w.heap.size w wr ∧ l.length ≤ c1 ∧ c1 ≤ maxLen

set_option maxRecDepth 100000 in
set_option maxHeartbeats 4000000 in
theorem refDEncode_calls (A : Option Addr) (b : List UInt8) (c : Nat) (A2 : Option Addr) (t : List UInt8) (c2 : Nat) (w : World) (hr : Rd w w.heap.size 1 A b.length (bc b)) (hr2 : Rd w w.heap.size 1 A2 t.length (bc t))
    (hb : b.length ≤ 16777216) (ht : t.length ≤ 16777216) (hc : b.length ≤ c) (hcm : c ≤ maxLen) (hc2 : t.length ≤ c2) (hcm2 : c2 ≤ maxLen) :
    Calls Tryz.prog 35 #[.slice A b.length c, .slice A2 t.length c2] w (RetSD w (encL b t)) := by
  have hcb : Hid (clampN (b.length : Int) = b.length) := clampN_ofD (by omega)
  have hct : Hid (clampN (t.length : Int) = t.length) := clampN_ofD (by omega)
  have hcost : Hid ((encL b t).length ≤ 16777241) := by unfold Hid; have := enc_cost4 (base := b) (target := t) hb ht; omega
  obtain ⟨T, hT⟩ : ∃ T, T = encL b t := ⟨_, rfl⟩
  rw [← hT] at hcost ⊢
  have HT := Lib.hid hT
  clear hT
  go_enter Tryz.func35, Tryz.ntmps35
  go_wp2_with fail
  refine (RefPutNum_calls none [] 0 _ w Rd.nil (by decide)).mono ?_
  rintro e w1 ⟨l1, A1, c1, e1, rfl, ho1, hb1, i1, i2⟩
  have hl1 : l1.length ≤ 9 := by
    rw [e1.out, hcb.out, List.nil_append]
    exact num_length_le 8 _ (by omega)
  go_wp2_with fail
  refine (RefPutNum_calls A1 l1 c1 _ w1 (Rd.of_own ho1) (by omega)).mono ?_
  rintro e w2 ⟨l2, A2', c2', e2, rfl, ho2, hb2, i3, i4⟩
  have hl2 : Hid (l2 = num b.length ++ num t.length) := by unfold Hid; rw [e2.out, e1.out, hcb.out, hct.out, List.nil_append]
  have hb12 := hb1.next hb2
  have hrx := hr.aliveD hb12
  have hrx2 := hr2.aliveD hb12
  have hro := Rd.of_own ho2
  clear e2 e1 hcb hct ho1 ho2 hb1 hb2
  go_wp2_with fail
  refine (refbegins_calls A b c A2 t c2 w2 _ _ hrx hrx2 (by omega) (by omega)).mono ?_
  rintro e w3 ⟨rfl, q3, hw3⟩
  have hple := begins_le b t
  obtain ⟨p, hp⟩ : ∃ p, p = begins b t := ⟨_, rfl⟩
  rw [← hp] at hple ⊢
  have HP := Lib.hid hp
  clear hp
  have hb3 : Below w.heap.size w w3 := by rw [hw3]; exact hb12.drewN' q3
  have hrx3 := hr.aliveD hb3
  have hrx3t := hr2.aliveD hb3
  have hro3 : Rd w3 w3.heap.size 1 A2' l2.length (bc l2) := by rw [hw3]; exact hro.drewN q3
  clear hw3 hrx hrx2 hro hb12
  obtain ⟨x1, B1, d1, ex1, jx1, jx1', ⟨rx1, kx1, kx1'⟩, _, _, _, sx1⟩ := sl_from (k := p) (p : Int) rfl hrx3 hple.1 hc hcm
  obtain ⟨x2, B2, d2, ex2, jx2, jx2', ⟨rx2, kx2, kx2'⟩, _, _, _, sx2⟩ := sl_from (k := p) (p : Int) rfl hrx3t hple.2 hc2 hcm2
  go_wp2_with fail
  go_quiet ((go_at_call 71; exact Calls.quiet_of (refends_calls B1 x1 d1 B2 x2 d2 _ w3.heap.size w3.heap.size (rx1.drewN _) (rx2.drewN _) (by omega) (by omega))))
  have hele := ends_le x1 x2
  obtain ⟨e, he⟩ : ∃ e, e = ends x1 x2 := ⟨_, rfl⟩
  rw [← he] at hele ⊢
  have HE : Hid (e = ends (b.drop p) (t.drop p)) := by unfold Hid; rw [he, ex1.out, ex2.out]
  clear he
  obtain ⟨w4, hw4⟩ : ∃ v, v = w3.drewN nq := ⟨_, rfl⟩
  rw [← hw4]
  have hb4 : Below w.heap.size w w4 := by rw [hw4]; exact hb3.drewN' nq
  have hro4 : Rd w4 w4.heap.size 1 A2' l2.length (bc l2) := by rw [hw4]; exact hro3.drewN nq
  clear hw4 sx1 sx2 rx1 rx2 hro3 hrx3 hrx3t hb3 ex1 ex2
  go_wp2_with fail
  refine (refcopyOf_calls A2' l2 c2' p 0 w4 hro4 i3 i4 (by omega) (by omega) (by have := num_length_le 8 b.length (by omega); have := num_length_le 8 t.length (by omega); rw [hl2.out, List.length_append]; omega)).mono ?_
  rintro e' w5 ⟨l3, A3, c3, e3, rfl, hr3, hb5', i5, i6⟩
  have hb5 := hb4.trans (hb5'.mono hb4.size)
  clear hb5' hb4 hro4
  obtain ⟨m, Am, cm, em, jm, jm', ⟨rm, km, km'⟩, _, _, _, sm⟩ := sl_mid (lo := p) (hi := t.length - e) (p : Int) ((t.length : Int) - (e : Int)) rfl (by omega) hr2 (by omega) (by omega) hc2 hcm2
  have hTm : Hid (T = l3 ++ (midG b m 0 0 ++ copyOf e (b.length - e))) := by
    unfold Hid
    rw [HT.out, enc_parts b t HP.out HE.out, e3.out, hl2.out, em.out, show t.length - e - p = t.length - p - e by omega]
    simp only [List.append_assoc]
  go_wp2_with fail
  clear sm em e3 hl2 HP HE HT
  go_loopw [5, 9, 10] (fun out frm i wr => EncRel T (copyOf e (b.length - e)) b m w out frm i wr) (fun _ _ i _ => m.length - (intOf i).toNat)
  case atStart => exact ⟨0, 0, l3, A3, c3, rfl, rfl, rfl, Nat.le_refl _, Nat.zero_le _, hTm, hr3, hb5, i5, i6⟩
  case round =>
    clear hr3 hb5 hTm i5 i6
    obtain ⟨k, f, l, A1, c1, rfl, rfl, rfl, hfk, hkm, hT, hrl, hbel, i5, i6⟩ := hrel
    have hll : l.length ≤ 16777241 := by have := hcost.out; have h := congrArg List.length hT.out; rw [List.length_append] at h; omega
    have hrb := hr.aliveD hbel
    have hrm := rm.aliveD hbel
    by_cases hkl : k < m.length
    · have d1 : decide ((k : Int) < (m.length : Int)) = true := by simp; omega
      have d1' : (k : Int) < (m.length : Int) := by omega
      obtain ⟨x, Ax, cx, ex, jx, jx', ⟨rx, kx, kx'⟩, _, _, _, sx⟩ := sl_from (k := k) (k : Int) rfl hrm hkm km km'
      go_wp2_with fail
      refine (refblock_calls A b c Ax x cx wr _ _ hrb rx hc (by omega) (by omega)).mono ?_
      rintro e' w6 ⟨rfl, q6, hw6⟩
      have hrl6 : Rd w6 w6.heap.size 1 A1 l.length (bc l) := by rw [hw6]; exact hrl.drewN q6
      have hrb6 : Rd w6 w6.heap.size 1 A b.length (bc b) := by rw [hw6]; exact hrb.drewN q6
      have hrm6 : Rd w6 w6.heap.size 1 Am m.length (bc m) := by rw [hw6]; exact hrm.drewN q6
      have rx6 : Rd w6 w6.heap.size 1 Ax x.length (bc x) := by rw [hw6]; exact rx.drewN q6
      have hbel6 : Below w.heap.size w w6 := by rw [hw6]; exact hbel.drewN' q6
      clear hw6 hrl hrb hrm rx hbel
      rcases hk : blockAt b x with _ | kk
      · have hT' : Hid (T = l ++ (midG b m (k + 1) f ++ copyOf e (b.length - e))) := by unfold Hid; rw [hT.out, midG_next hkl (by rw [← ex.out]; exact hk)]
        clear hk
        simp only [blockI]
        go_wp2_with fail
        exact ⟨⟨k + 1, f, l, A1, c1, rfl, rfl, by go_num, by omega, by omega, hT', hrl6, hbel6, i5, i6⟩, by simp [intOf]; omega⟩
      · have hsp := blockAt_spec hk
        have hT' : Hid (T = l ++ (runB ((m.drop f).take (k - f)) ++ (copyOf (begins (b.drop kk) x) kk ++ midG b m (k + begins (b.drop kk) x) (k + begins (b.drop kk) x)) ++ copyOf e (b.length - e))) := by
          unfold Hid; rw [hT.out, midG_copy hkl (by rw [← ex.out]; exact hk), ← ex.out]
        clear hk
        simp only [blockI]
        obtain ⟨y, Ay, cy, ey, jy, jy', ⟨ry, ky, ky'⟩, _, _, _, sy⟩ := sl_from (k := kk) (kk : Int) rfl hrb6 (by omega) hc hcm
        have d2 : decide ((kk : Int) < 0) = false := by simp
        go_wp2_with fail
        go_quiet ((go_at_call 70; exact Calls.quiet_of (refbegins_calls Ay y cy Ax x cx _ w6.heap.size w6.heap.size (ry.drewN _) (rx6.drewN _) (by omega) (by omega))))
        have hgl := begins_le y x
        rw [← ey.out] at hT' hsp
        obtain ⟨g, hg⟩ : ∃ g, g = begins y x := ⟨_, rfl⟩
        rw [← hg] at hgl hT' hsp ⊢
        obtain ⟨w7, hw7⟩ : ∃ v, v = w6.drewN nq := ⟨_, rfl⟩
        rw [← hw7]
        have hrl7 : Rd w7 w7.heap.size 1 A1 l.length (bc l) := by rw [hw7]; exact hrl6.drewN nq
        have hrm7 : Rd w7 w7.heap.size 1 Am m.length (bc m) := by rw [hw7]; exact hrm6.drewN nq
        have hbel7 : Below w.heap.size w w7 := by rw [hw7]; exact hbel6.drewN' nq
        clear hw7 hrl6 hrb6 hrm6 hbel6 sx sy ry rx6 hg ex ey
        obtain ⟨z, Az, cz, ez, jz, jz', ⟨rz, kz, kz'⟩, _, _, _, sz⟩ := sl_mid (lo := f) (hi := k) (f : Int) (k : Int) rfl rfl hrm7 hfk hkm km km'
        rw [← ez.out] at hT'
        go_wp2_with fail
        refine (refinsert_calls A1 l c1 Az z z.length cz w7 rfl hrl7 i5 i6 rz (by omega)).mono ?_
        rintro e' w8 ⟨l8, A8, c8, e8, rfl, hr8, hb8, i7, i8⟩
        have hl8 : l8.length ≤ 16777241 := by
          have h := congrArg List.length hT'.out
          have h8 := congrArg List.length e8.out
          have := hcost.out
          simp only [List.length_append] at h h8
          omega
        clear sz hrm7 hrl7 rz ez
        go_wp2_with fail
        refine (refcopyOf_calls A8 l8 c8 g kk w8 hr8 i7 i8 (by omega) (by omega) (by omega)).mono ?_
        rintro e' w9 ⟨l9, A9, c9, e9, rfl, hr9, hb9, i9, i10⟩
        have hb79 := hb8.next hb9
        go_wp2_with fail
        refine ⟨⟨k + g, k + g, l9, A9, c9, rfl, by go_num, by go_num, Nat.le_refl _, by omega, ?_, hr9, hbel7.trans (hb79.mono hbel7.size), i9, i10⟩, by simp [intOf]; omega⟩
        unfold Hid
        rw [hT'.out, e9.out, e8.out]
        simp only [List.append_assoc]
    · have d1 : decide ((k : Int) < (m.length : Int)) = false := by simp; omega
      have d1' : ¬ (k : Int) < (m.length : Int) := by omega
      obtain ⟨x, Ax, cx, ex, jx, jx', ⟨rx, kx, kx'⟩, _, _, _, sx⟩ := sl_from (k := f) (f : Int) rfl hrm (by omega) km km'
      have hT' : Hid (T = l ++ (runB x ++ copyOf e (b.length - e))) := by unfold Hid; rw [hT.out, midG_end (by omega), ex.out]
      clear hT ex
      go_wp2_with fail
      refine (refinsert_calls A1 l c1 Ax x x.length cx wr rfl hrl i5 i6 rx (by omega)).mono ?_
      rintro e' w8 ⟨l8, A8, c8, e8, rfl, hr8, hb8, i7, i8⟩
      have hl8 : l8.length ≤ 16777241 := by
        have h := congrArg List.length hT'.out
        have h8 := congrArg List.length e8.out
        have := hcost.out
        simp only [List.length_append] at h h8
        omega
      have f1 : (b.length : Int) - (e : Int) = ((b.length - e : Nat) : Int) := by omega
      have hx := refcopyOf_calls A8 l8 c8 e (b.length - e) w8 hr8 i7 i8 (by omega) (by omega) (by omega)
      rw [← f1] at hx
      clear f1 sx hrm hrl rx
      go_wp2_with fail
      refine hx.mono ?_
      rintro e' w9 ⟨l9, A9, c9, e9, rfl, hr9, hb9, i9, i10⟩
      clear hx
      go_wp2_with fail
      go_ret
      refine ⟨l9, A9, c9, ?_, rfl, hr9, hbel.trans ((hb8.next hb9).mono hbel.size), i9, i10⟩
      unfold Hid
      rw [hT'.out, e9.out, e8.out, List.append_assoc]
end Go.Proofs.YtnaakfnbmeimaaaGreat
