/- What follows of the layer 'press', in plain Lean: there and back; how long; what is cut off, or goes on; like bytes; bytes that never repeat. No program is in sight. Conditions: as each lemma names. -/
import Derived.Test.YtpkfkippbanagaaPressSpec
namespace Go.Dol
set_option linter.unusedVariables false

theorem copyN_take {b : List UInt8} {d : Nat} : ∀ (n i : Nat), 1 ≤ d → d ≤ i → i + n ≤ b.length → (∀ j, j < n → b[i - d + j]? = b[i + j]?) → copyN (b.take i) d n = b.take (i + n)
  | 0, i, _, _, _, _ => rfl
  | n + 1, i, h1, h2, h3, h => by
    have hl : (b.take i).length = i := by rw [List.length_take]; omega
    have hi : i < b.length := by omega
    have e : (b.take i).getD ((b.take i).length - d) 0 = b[i] := by
      have h0 := h 0 (by omega)
      rw [Nat.add_zero, Nat.add_zero, List.getElem?_eq_getElem hi] at h0
      rw [hl, List.getD_eq_getElem?_getD, List.getElem?_take, if_pos (by omega), h0]
      rfl
    rw [copyN, e, ← List.take_succ_eq_append_getElem hi, copyN_take n (i + 1) h1 (by omega) (by omega) fun j hj => ?_]
    · congr 1
      omega
    · have := h (j + 1) (by omega)
      rw [show i + 1 - d + j = i - d + (j + 1) by omega, show i + 1 + j = i + (j + 1) by omega]
      exact this

def mostLen : Nat := 1152921504606846975
theorem open_run {size : Nat} {out l q : List UInt8} (h : l.length ≤ size - out.length) (hm : l.length ≤ mostLen) : openGo size out (runB l ++ q) = openGo size (out ++ l) q := by
  unfold runB
  by_cases hl : l = []
  · rw [if_pos hl, hl]
    simp
  · have hp : 0 < l.length := List.length_pos_iff.2 hl
    rw [if_neg hl, List.append_assoc, openGo_run (takeNum_num (2 * (l.length - 1)) (l ++ q) (by unfold mostNum; unfold mostLen at hm; omega)) (by omega)]
    have e : 2 * (l.length - 1) / 2 + 1 = l.length := by omega
    rw [e, if_pos ⟨h, by rw [List.length_append]; omega⟩, List.take_left, List.drop_left]
theorem open_copy {size : Nat} {out q : List UInt8} {n d : Nat} (h4 : 4 ≤ n) (h1 : n ≤ size - out.length) (h2 : n ≤ 259) (h3 : 1 ≤ d) (h5 : d ≤ out.length) (h6 : d ≤ 4096) :
    openGo size out (num (2 * (n - 4) + 1) ++ (num d ++ q)) = openGo size (copyN out d n) q := by
  rw [openGo_copy (takeNum_num (2 * (n - 4) + 1) (num d ++ q) (by unfold mostNum; omega)) (by omega) (takeNum_num d q (by unfold mostNum; omega))]
  have e : (2 * (n - 4) + 1) / 2 + 4 = n := by omega
  rw [e, if_pos ⟨h1, h2, h3, h5, h6⟩]
theorem open_press_at (b : List UInt8) (hb : b.length ≤ mostLen) : ∀ (m i frm : Nat), b.length - i ≤ m → frm ≤ i → i ≤ b.length → openGo b.length (b.take frm) (press b i frm) = some b := by
  have hend : ∀ (i frm : Nat), frm ≤ i → i = b.length → openGo b.length (b.take frm) (press b i frm) = some b := by
    intro i frm h1 h2
    have hl : (b.take frm).length = frm := by rw [List.length_take]; omega
    have := open_run (size := b.length) (out := b.take frm) (l := b.drop frm) (q := []) (by rw [List.length_drop, hl]; exact Nat.le_refl _) (by rw [List.length_drop]; omega)
    rw [press_end (by omega), ← List.append_nil (runB _), this, List.take_append_drop, openGo_nil, if_pos rfl]
  intro m
  induction m with
  | zero => intro i frm h1 h2 h3; exact hend i frm h2 (by omega)
  | succ m ih =>
    intro i frm h1 h2 h3
    by_cases hi : i < b.length
    · by_cases h4 : (longest b i).1 < 4
      · rw [press_next hi h4]
        exact ih (i + 1) frm (by omega) (by omega) (by omega)
      · have hs := longest_spec (b := b) (i := i) (by omega)
        have hl : (b.take frm).length = frm := by rw [List.length_take]; omega
        have hl2 : ((b.drop frm).take (i - frm)).length = i - frm := by rw [List.length_take, List.length_drop]; omega
        have ht : b.take frm ++ (b.drop frm).take (i - frm) = b.take i := by
          have := List.take_add (l := b) (i := frm) (j := i - frm)
          rw [← this]
          congr 1
          omega
        have hli : (b.take i).length = i := by rw [List.length_take]; omega
        rw [press_copy hi (by omega), open_run (by rw [hl2, hl]; omega) (by rw [hl2]; omega), ht,
          open_copy (by omega) (by rw [hli]; omega) hs.2.2.2.1 hs.1 (by rw [hli]; exact hs.2.1) hs.2.2.1, copyN_take _ _ hs.1 hs.2.1 hs.2.2.2.2.1 hs.2.2.2.2.2]
        exact ih _ _ (by omega) (Nat.le_refl _) hs.2.2.2.2.1
    · exact hend i frm h2 (by omega)
/-- There and back, in as much room as it wants. -/
theorem open_press {b : List UInt8} (hb : b.length ≤ mostLen) (most : Int) : openL (pressL b) most = if (b.length : Int) ≤ most then some b else none := by
  unfold openL pressL
  rw [takeNum_num _ _ (by unfold mostNum; unfold mostLen at hb; omega)]
  simp only
  have := open_press_at b hb b.length 0 0 (by omega) (Nat.le_refl _) (Nat.zero_le _)
  rw [List.take_zero] at this
  rw [this]

/-- What it costs. -/
theorem num1 {n : Nat} (h : n < 128) : (num n).length ≤ 1 := num_length_le 0 n (by omega)
theorem num2 {n : Nat} (h : n < 16384) : (num n).length ≤ 2 := num_length_le 1 n (by omega)
theorem num3 {n : Nat} (h : n < 2097152) : (num n).length ≤ 3 := num_length_le 2 n (by omega)
theorem runB_cost (l : List UInt8) (h : l.length ≤ 1048576) : (l.length = 0 → (runB l).length = 0) ∧ (l.length ≤ 64 → (runB l).length ≤ l.length + 1) ∧ (l.length ≤ 8192 → (runB l).length ≤ l.length + 2) ∧ (runB l).length ≤ l.length + 3 := by
  unfold runB
  by_cases hl : l = []
  · rw [if_pos hl, hl]
    simp
  · have hp : 0 < l.length := List.length_pos_iff.2 hl
    rw [if_neg hl, List.length_append]
    refine ⟨fun h0 => by omega, fun h1 => ?_, fun h1 => ?_, ?_⟩
    · have := num1 (n := 2 * (l.length - 1)) (by omega); omega
    · have := num2 (n := 2 * (l.length - 1)) (by omega); omega
    · have := num3 (n := 2 * (l.length - 1)) (by omega); omega
theorem press_cost (b : List UInt8) (hb : b.length ≤ 1048576) : ∀ (m i frm : Nat), b.length - i ≤ m → frm ≤ i → i ≤ b.length → 4 * (press b i frm).length ≤ 5 * (b.length - frm) + 12 := by
  have hend : ∀ (i frm : Nat), frm ≤ i → i = b.length → 4 * (press b i frm).length ≤ 5 * (b.length - frm) + 12 := by
    intro i frm h1 h2
    rw [press_end (by omega)]
    have hl : (b.drop frm).length = b.length - frm := List.length_drop
    have hc := runB_cost (b.drop frm) (by omega)
    rw [hl] at hc
    rcases (by omega : b.length - frm = 0 ∨ (0 < b.length - frm ∧ b.length - frm ≤ 64) ∨ (64 < b.length - frm ∧ b.length - frm ≤ 8192) ∨ 8192 < b.length - frm) with h | h | h | h
    · have := hc.1 h; omega
    · have := hc.2.1 h.2; omega
    · have := hc.2.2.1 h.2; omega
    · have := hc.2.2.2; omega
  intro m
  induction m with
  | zero => intro i frm h1 h2 h3; exact hend i frm h2 (by omega)
  | succ m ih =>
    intro i frm h1 h2 h3
    by_cases hi : i < b.length
    · by_cases h4 : (longest b i).1 < 4
      · rw [press_next hi h4]
        exact ih (i + 1) frm (by omega) (by omega) (by omega)
      · have hs := longest_spec (b := b) (i := i) (by omega)
        have hl2 : ((b.drop frm).take (i - frm)).length = i - frm := by rw [List.length_take, List.length_drop]; omega
        have hc := runB_cost ((b.drop frm).take (i - frm)) (by omega)
        rw [hl2] at hc
        have hih := ih (i + (longest b i).1) (i + (longest b i).1) (by omega) (Nat.le_refl _) hs.2.2.2.2.1
        have hd := num2 (n := (longest b i).2) (by omega)
        rw [press_copy hi (by omega), List.length_append, List.length_append, List.length_append]
        have hn2 := num2 (n := 2 * ((longest b i).1 - 4) + 1) (by omega)
        have hrun : 4 * (runB ((b.drop frm).take (i - frm))).length ≤ 5 * (i - frm) + 4 := by
          rcases (by omega : i - frm = 0 ∨ (0 < i - frm ∧ i - frm ≤ 64) ∨ (64 < i - frm ∧ i - frm ≤ 8192) ∨ 8192 < i - frm) with h | h | h | h
          · have := hc.1 h; omega
          · have := hc.2.1 h.2; omega
          · have := hc.2.2.1 h.2; omega
          · have := hc.2.2.2; omega
        by_cases hs7 : (longest b i).1 ≤ 67
        · have hn1 := num1 (n := 2 * ((longest b i).1 - 4) + 1) (by omega)
          omega
        · omega
    · exact hend i frm h2 (by omega)
theorem pressL_cost (b : List UInt8) (hb : b.length ≤ 1048576) : (pressL b).length ≤ b.length + b.length / 4 + 9 := by
  have h1 := press_cost b hb b.length 0 0 (by omega) (Nat.le_refl _) (Nat.zero_le _)
  have h2 := num3 (n := b.length) (by omega)
  unfold pressL
  rw [List.length_append]
  omega
theorem pressL_pos (b : List UInt8) : 0 < (pressL b).length := by
  have := num_pos b.length
  unfold pressL
  rw [List.length_append]
  omega

/-- A beginning of tokens, shorter than they, is none; nor is what goes on. -/
theorem takeNum_cut' {N p : Nat} (hN : N ≤ mostNum) (hp : p < (num N).length) : takeNum ((num N).take p) = none := by
  cases h : takeNum ((num N).take p) with
  | none => rfl
  | some x =>
    obtain ⟨m, r⟩ := x
    obtain ⟨h1, h2⟩ := num_takeNum h
    have h3 : num N = num m ++ (r ++ (num N).drop p) := by
      rw [← List.append_assoc, ← h1, List.take_append_drop]
    have h4 := takeNum_num N [] hN
    rw [List.append_nil, h3, takeNum_num m _ h2] at h4
    injection h4 with h4
    injection h4 with h4 h5
    have h6 := List.append_eq_nil_iff.1 h5
    have h7 := congrArg List.length h6.2
    rw [List.length_drop] at h7
    simp at h7
    omega
theorem cut_app {x y : List UInt8} {q : Nat} (h : x.length ≤ q) : (x ++ y).take q = x ++ y.take (q - x.length) := by
  rw [List.take_append, List.take_of_length_le h]
theorem cut_lt {x y : List UInt8} {q : Nat} (h : q < x.length) : (x ++ y).take q = x.take q := List.take_append_of_le_length (by omega)
theorem open_lt {size : Nat} {out p r : List UInt8} (hp : p ≠ []) (h : openGo size out p = some r) : out.length < size := by
  cases ht : takeNum p with
  | none => rw [openGo_none hp ht] at h; cases h
  | some x =>
    obtain ⟨t, rest⟩ := x
    by_cases he : t % 2 = 0
    · rw [openGo_run ht he] at h
      split at h
      · omega
      · cases h
    · cases ht2 : takeNum rest with
      | none => rw [openGo_copy_none ht (by omega) ht2] at h; cases h
      | some y =>
        obtain ⟨d, rest2⟩ := y
        rw [openGo_copy ht (by omega) ht2] at h
        split at h
        · omega
        · cases h
theorem open_cut {size : Nat} {r : List UInt8} : ∀ (m : Nat) (out p : List UInt8) (q : Nat), p.length ≤ m → openGo size out p = some r → q < p.length → openGo size out (p.take q) = none := by
  intro m
  induction m with
  | zero => intro out p q h1 _ h3; omega
  | succ m ih =>
    intro out p q h1 h h3
    have hp : p ≠ [] := fun e => by rw [e] at h3; simp at h3
    have hlt := open_lt hp h
    rcases Nat.eq_zero_or_pos q with hq | hq
    · rw [hq, List.take_zero, openGo_nil, if_neg (by omega)]
    have hne : p.take q ≠ [] := fun e => by
      have h0 : (p.take q).length = 0 := by rw [e]; rfl
      rw [List.length_take] at h0
      omega
    cases ht : takeNum p with
    | none => rw [openGo_none hp ht] at h; cases h
    | some x =>
      obtain ⟨t, rest⟩ := x
      obtain ⟨e1, hm1⟩ := num_takeNum ht
      rcases Nat.lt_or_ge q (num t).length with hqn | hqn
      · refine openGo_none hne ?_
        rw [e1, cut_lt hqn]
        exact takeNum_cut' hm1 hqn
      · have ht' : takeNum (p.take q) = some (t, rest.take (q - (num t).length)) := by
          rw [e1, cut_app hqn]
          exact takeNum_num t _ hm1
        have hlen : p.length = (num t).length + rest.length := by rw [e1, List.length_append]
        have hnp := num_pos t
        by_cases he : t % 2 = 0
        · rw [openGo_run ht he] at h
          rw [openGo_run ht' he]
          split at h
          · rename_i hc
            by_cases hc2 : t / 2 + 1 ≤ (rest.take (q - (num t).length)).length
            · rw [if_pos ⟨hc.1, hc2⟩]
              rw [List.length_take] at hc2
              have h5 : (rest.take (q - (num t).length)).take (t / 2 + 1) = rest.take (t / 2 + 1) := by rw [List.take_take]; congr 1; omega
              have h6 : (rest.take (q - (num t).length)).drop (t / 2 + 1) = (rest.drop (t / 2 + 1)).take (q - (num t).length - (t / 2 + 1)) := List.drop_take
              rw [h5, h6]
              exact ih _ _ _ (by rw [List.length_drop]; omega) h (by rw [List.length_drop]; omega)
            · rw [if_neg (fun hh => hc2 hh.2)]
          · cases h
        · cases ht2 : takeNum rest with
          | none => rw [openGo_copy_none ht (by omega) ht2] at h; cases h
          | some y =>
            obtain ⟨d, rest2⟩ := y
            obtain ⟨e2, hm2⟩ := num_takeNum ht2
            rw [openGo_copy ht (by omega) ht2] at h
            split at h
            · rename_i hc
              have hlen2 : rest.length = (num d).length + rest2.length := by rw [e2, List.length_append]
              rcases Nat.lt_or_ge (q - (num t).length) (num d).length with hqd | hqd
              · refine openGo_copy_none ht' (by omega) ?_
                rw [e2, cut_lt hqd]
                exact takeNum_cut' hm2 hqd
              · have ht2' : takeNum (rest.take (q - (num t).length)) = some (d, rest2.take (q - (num t).length - (num d).length)) := by
                  rw [e2, cut_app hqd]
                  exact takeNum_num d _ hm2
                rw [openGo_copy ht' (by omega) ht2', if_pos hc]
                exact ih _ _ _ (by omega) h (by omega)
            · cases h
theorem open_more {size : Nat} {r : List UInt8} (x : UInt8) : ∀ (m : Nat) (out p : List UInt8), p.length ≤ m → openGo size out p = some r → openGo size out (p ++ [x]) = none := by
  have hone : ∀ out : List UInt8, out.length = size → openGo size out [x] = none := by
    intro out hs
    cases ht : takeNum [x] with
    | none => exact openGo_none (by simp) ht
    | some y =>
      obtain ⟨t, rest⟩ := y
      have hl := takeNum_less ht
      have hr : rest = [] := List.eq_nil_of_length_eq_zero (by simp at hl; simp [hl])
      by_cases he : t % 2 = 0
      · rw [openGo_run ht he, if_neg (by omega)]
      · exact openGo_copy_none ht (by omega) (by rw [hr]; decide)
  intro m
  induction m with
  | zero =>
    intro out p h1 h
    obtain rfl : p = [] := List.eq_nil_of_length_eq_zero (by omega)
    rw [openGo_nil] at h
    split at h
    · exact hone out (by assumption)
    · cases h
  | succ m ih =>
    intro out p h1 h
    by_cases hp : p = []
    · subst hp
      rw [openGo_nil] at h
      split at h
      · exact hone out (by assumption)
      · cases h
    cases ht : takeNum p with
    | none => rw [openGo_none hp ht] at h; cases h
    | some y =>
      obtain ⟨t, rest⟩ := y
      obtain ⟨e1, hm1⟩ := num_takeNum ht
      have ht' : takeNum (p ++ [x]) = some (t, rest ++ [x]) := by rw [e1, List.append_assoc]; exact takeNum_num t _ hm1
      have hl := takeNum_less ht
      by_cases he : t % 2 = 0
      · rw [openGo_run ht he] at h
        rw [openGo_run ht' he]
        split at h
        · rename_i hc
          rw [if_pos ⟨hc.1, by rw [List.length_append]; omega⟩, List.take_append_of_le_length hc.2, List.drop_append_of_le_length hc.2]
          exact ih _ _ (by rw [List.length_drop]; omega) h
        · cases h
      · cases ht2 : takeNum rest with
        | none => rw [openGo_copy_none ht (by omega) ht2] at h; cases h
        | some z =>
          obtain ⟨d, rest2⟩ := z
          obtain ⟨e2, hm2⟩ := num_takeNum ht2
          have ht2' : takeNum (rest ++ [x]) = some (d, rest2 ++ [x]) := by rw [e2, List.append_assoc]; exact takeNum_num d _ hm2
          have hl2 := takeNum_less ht2
          rw [openGo_copy ht (by omega) ht2] at h
          rw [openGo_copy ht' (by omega) ht2']
          split at h
          · rename_i hc
            rw [if_pos hc]
            exact ih _ _ (by omega) h
          · cases h
theorem openL_cut {p r : List UInt8} {most : Int} {q : Nat} (h : openL p most = some r) (hq : q < p.length) : openL (p.take q) most = none := by
  unfold openL at h ⊢
  cases ht : takeNum p with
  | none => rw [ht] at h; cases h
  | some y =>
    obtain ⟨t, rest⟩ := y
    rw [ht] at h
    simp only at h
    obtain ⟨e1, hm1⟩ := num_takeNum ht
    split at h
    · rename_i hc
      rcases Nat.lt_or_ge q (num t).length with hqn | hqn
      · rw [e1, cut_lt hqn, takeNum_cut' hm1 hqn]
      · have ht' : takeNum (p.take q) = some (t, rest.take (q - (num t).length)) := by rw [e1, cut_app hqn]; exact takeNum_num t _ hm1
        rw [ht']
        simp only
        rw [if_pos hc]
        exact open_cut _ _ _ _ (Nat.le_refl _) h (by have := congrArg List.length e1; rw [List.length_append] at this; omega)
    · cases h
theorem openL_more {p r : List UInt8} {most : Int} (x : UInt8) (h : openL p most = some r) : openL (p ++ [x]) most = none := by
  unfold openL at h ⊢
  cases ht : takeNum p with
  | none => rw [ht] at h; cases h
  | some y =>
    obtain ⟨t, rest⟩ := y
    rw [ht] at h
    simp only at h
    obtain ⟨e1, hm1⟩ := num_takeNum ht
    split at h
    · rename_i hc
      have ht' : takeNum (p ++ [x]) = some (t, rest ++ [x]) := by rw [e1, List.append_assoc]; exact takeNum_num t _ hm1
      rw [ht']
      simp only
      rw [if_pos hc]
      exact open_more x _ _ _ (Nat.le_refl _) h
    · cases h

/-- Like bytes. -/
theorem alike_rep {k : Nat} {c : UInt8} {i d : Nat} (hd : d ≤ i) (hi : i ≤ k) : alikeN (List.replicate k c) (i - d) i = min 259 (k - i) := by
  have hl : (List.replicate k c).length = k := List.length_replicate
  refine alike_stop (by omega) (by omega) (by rw [hl]; omega) (fun j hj => ?_) (by rw [hl]; omega)
  rw [List.getElem?_replicate, List.getElem?_replicate, if_pos (by omega), if_pos (by omega)]
theorem bestD_rep {k : Nat} {c : UInt8} {i : Nat} (hi : i < k) : ∀ d, d + 1 ≤ i → bestD (List.replicate k c) i (d + 1) = (min 259 (k - i), 1)
  | 0, h => by
    rw [bestD, bestD, alike_rep (by omega) (by omega), if_pos (by simp only; omega)]
  | d + 1, h => by
    rw [bestD, alike_rep (by omega) (by omega), bestD_rep hi d (by omega), if_neg (by simp only; omega)]
theorem longest_rep {k : Nat} {c : UInt8} {i : Nat} (hi : i < k) (h1 : 1 ≤ i) : longest (List.replicate k c) i = (min 259 (k - i), 1) := by
  unfold longest
  have : min 4096 i = (min 4096 i - 1) + 1 := by omega
  rw [this]
  exact bestD_rep hi _ (by omega)
theorem press_short {b : List UInt8} : ∀ (m i frm : Nat), b.length - i ≤ m → b.length < i + 4 → press b i frm = runB (b.drop frm)
  | 0, i, frm, h, _ => press_end (by omega)
  | m + 1, i, frm, h, h4 => by
    by_cases hi : i < b.length
    · rw [press_next hi (by have := longest_le b i; omega)]
      exact press_short m (i + 1) frm (by omega) (by omega)
    · exact press_end (by omega)
theorem press_rep {k : Nat} {c : UInt8} : ∀ (m i frm : Nat), k - i ≤ m → 1 ≤ i → i ≤ k → frm ≤ i → i - frm ≤ 1 →
    259 * (press (List.replicate k c) i frm).length ≤ 3 * (k - i) + 2072 + 518 * (i - frm) := by
  have hl : (List.replicate k c).length = k := List.length_replicate
  have hend : ∀ i frm : Nat, 1 ≤ i → i ≤ k → frm ≤ i → i - frm ≤ 1 → k < i + 4 → 259 * (press (List.replicate k c) i frm).length ≤ 3 * (k - i) + 2072 + 518 * (i - frm) := by
    intro i frm h1 h2 h3 h4 h5
    rw [press_short _ i frm (Nat.le_refl _) (by rw [hl]; exact h5)]
    have hd : ((List.replicate k c).drop frm).length = k - frm := by rw [List.length_drop, hl]
    have := (runB_cost ((List.replicate k c).drop frm) (by omega)).2.1 (by omega)
    omega
  intro m
  induction m with
  | zero => intro i frm h0 h1 h2 h3 h4; exact hend i frm h1 h2 h3 h4 (by omega)
  | succ m ih =>
    intro i frm h0 h1 h2 h3 h4
    by_cases h5 : k < i + 4
    · exact hend i frm h1 h2 h3 h4 h5
    · have hlg := longest_rep (c := c) (k := k) (i := i) (by omega) h1
      have hd1 := num1 (n := 1) (by omega)
      have hrun := (runB_cost (((List.replicate k c).drop frm).take (i - frm)) (by rw [List.length_take]; omega))
      have hll : (((List.replicate k c).drop frm).take (i - frm)).length = i - frm := by rw [List.length_take, List.length_drop, hl]; omega
      rw [hll] at hrun
      have hn := num2 (n := 2 * (min 259 (k - i) - 4) + 1) (by omega)
      rw [press_copy (by rw [hl]; omega) (by rw [hlg]; simp only; omega), hlg]
      simp only [List.length_append]
      have hih := ih (i + min 259 (k - i)) (i + min 259 (k - i)) (by omega) (by omega) (by omega) (Nat.le_refl _) (by omega)
      have hrun2 : (runB (((List.replicate k c).drop frm).take (i - frm))).length ≤ 2 * (i - frm) := by
        rcases (by omega : i - frm = 0 ∨ i - frm = 1) with h | h
        · have := hrun.1 h; omega
        · have := hrun.2.1 (by omega); omega
      by_cases h6 : k - i < 259
      · have h7 : i + min 259 (k - i) = k := by omega
        rw [h7, press_end (by rw [hl]; exact Nat.le_refl _)]
        have h8 : (runB ((List.replicate k c).drop k)).length = 0 := (runB_cost _ (by rw [List.length_drop, hl]; omega)).1 (by rw [List.length_drop, hl]; omega)
        omega
      · omega
theorem pressL_rep {k : Nat} (c : UInt8) (h1 : 5 ≤ k) (h2 : k ≤ 4100) : (pressL (List.replicate k c)).length ≤ 20 + k / 64 := by
  have hl : (List.replicate k c).length = k := List.length_replicate
  have h3 := press_rep (k := k) (c := c) k 1 0 (by omega) (Nat.le_refl _) (by omega) (by omega) (by omega)
  have h4 := num2 (n := k) (by omega)
  unfold pressL
  rw [hl, List.length_append, press_next (by rw [hl]; omega) (by unfold longest; rw [show min 4096 0 = 0 from rfl]; simp [bestD]), Nat.zero_add]
  omega

/-- Bytes that never repeat. -/
theorem press_apart {b : List UInt8} (h : ∀ i d, i < b.length → 1 ≤ d → d ≤ i → b[i - d]? ≠ b[i]?) : ∀ (m i frm : Nat), b.length - i ≤ m → press b i frm = runB (b.drop frm)
  | 0, i, frm, h0 => press_end (by omega)
  | m + 1, i, frm, h0 => by
    by_cases hi : i < b.length
    · have hz : ∀ d, d ≤ i → bestD b i d = (0, 0) := by
        intro d
        induction d with
        | zero => intro _; rfl
        | succ d ih =>
          intro hd
          have ha : alikeN b (i - (d + 1)) i = 0 := alike_stop (by omega) (by omega) (by omega) (fun j hj => by omega) (.inr (.inr (by simpa using h i (d + 1) hi (by omega) hd)))
          rw [bestD, ha, ih (by omega), if_neg (by simp only; omega)]
      rw [press_next hi (by unfold longest; rw [hz _ (by omega)]; simp only; omega)]
      exact press_apart h m (i + 1) frm (by omega)
    · exact press_end (by omega)
theorem pressL_apart {b : List UInt8} (hb : b ≠ []) (h : ∀ i d, i < b.length → 1 ≤ d → d ≤ i → b[i - d]? ≠ b[i]?) : pressL b = num b.length ++ (num (2 * (b.length - 1)) ++ b) := by
  unfold pressL
  rw [press_apart h b.length 0 0 (by omega), List.drop_zero, runB, if_neg hb]
end Go.Dol
