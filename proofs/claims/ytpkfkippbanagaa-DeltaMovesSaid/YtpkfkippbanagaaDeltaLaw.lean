/- What any target is told by is that target again; what it costs. In plain Lean, no program is in sight. Conditions: as each lemma names. -/
import Derived.Test.YtpkfkippbanagaaDeltaSpec
namespace Go.Dol
set_option linter.unusedVariables false

theorem begins_le (a b : List UInt8) : begins a b ≤ a.length ∧ begins a b ≤ b.length := cnt_le _ _ _
theorem begins_same {a b : List UInt8} {j : Nat} (h : j < begins a b) : a[j]? = b[j]? := cnt_same _ _ _ _ h
theorem begins_ge {a b : List UInt8} {n : Nat} (h1 : n ≤ a.length) (h2 : n ≤ b.length) (h : ∀ j, j < n → a[j]? = b[j]?) : n ≤ begins a b := cnt_ge _ _ _ _ h1 h1 h2 h
theorem begins_take {a b : List UInt8} {n : Nat} (h : n ≤ begins a b) : a.take n = b.take n := by
  apply List.ext_getElem?
  intro j
  rw [List.getElem?_take, List.getElem?_take]
  split
  · exact begins_same (by omega)
  · rfl
theorem begins_of_take {a b : List UInt8} {n : Nat} (h1 : n ≤ a.length) (h2 : n ≤ b.length) (h : a.take n = b.take n) : n ≤ begins a b := by
  refine begins_ge h1 h2 fun j hj => ?_
  have := congrArg (fun l => l[j]?) h
  simp only [List.getElem?_take, if_pos hj] at this
  exact this
theorem ends_le (a b : List UInt8) : ends a b ≤ a.length ∧ ends a b ≤ b.length := by
  have := begins_le a.reverse b.reverse
  simpa [ends] using this
theorem ends_drop (a b : List UInt8) : a.drop (a.length - ends a b) = b.drop (b.length - ends a b) := by
  have h : a.reverse.take (ends a b) = b.reverse.take (ends a b) := begins_take (Nat.le_refl _)
  rw [List.take_reverse, List.take_reverse] at h
  exact List.reverse_inj.1 h
theorem ends_ge {a b : List UInt8} {n : Nat} (h1 : n ≤ a.length) (h2 : n ≤ b.length) (h : a.drop (a.length - n) = b.drop (b.length - n)) : n ≤ ends a b := by
  refine begins_of_take (by simpa using h1) (by simpa using h2) ?_
  rw [List.take_reverse, List.take_reverse, h]

theorem blockF_spec {base b : List UInt8} : ∀ (f k k' : Nat), blockF base b f k = some k' → k' + 16 ≤ base.length ∧ (base.drop k').take 16 = b.take 16 := by
  intro f
  induction f with
  | zero => intro k k' h; cases h
  | succ f ih =>
    intro k k' h
    rw [blockF] at h
    split at h
    · split at h
      · injection h with h
        subst h
        exact ⟨by assumption, by assumption⟩
      · exact ih _ _ h
    · cases h
theorem blockAt_spec {base b : List UInt8} {k : Nat} (h : blockAt base b = some k) : k + 16 ≤ base.length ∧ 16 ≤ begins (base.drop k) b := by
  unfold blockAt at h
  split at h
  · have := blockF_spec _ _ _ h
    exact ⟨this.1, begins_of_take (by rw [List.length_drop]; omega) (by assumption) this.2⟩
  · cases h

theorem d_run {base : List UInt8} {size : Nat} {out x rest : List UInt8} (hx : x.length ≤ mostLen) (hs : x.length ≤ size - out.length) : dGo base size out (runB x ++ rest) = dGo base size (out ++ x) rest := by
  by_cases h0 : x = []
  · subst h0
    simp [runB]
  · have hp : 0 < x.length := List.length_pos_iff.2 h0
    unfold runB
    rw [if_neg h0, List.append_assoc]
    have ht := takeNum_num (2 * (x.length - 1)) (x ++ rest) (by unfold mostNum; unfold mostLen at hx; omega)
    rw [dGo_run ht (by omega), show 2 * (x.length - 1) / 2 + 1 = x.length by omega, if_pos ⟨hs, by rw [List.length_append]; omega⟩, List.take_left, List.drop_left]
theorem d_copy {base : List UInt8} {size n k : Nat} {out rest : List UInt8} (hb : base.length ≤ mostLen) (hs : n ≤ size - out.length) (hk : k + n ≤ base.length) : dGo base size out (copyOf n k ++ rest) = dGo base size (out ++ (base.drop k).take n) rest := by
  by_cases h0 : n = 0
  · subst h0
    simp [copyOf]
  · unfold copyOf
    rw [if_neg h0, List.append_assoc]
    have ht := takeNum_num (2 * (n - 1) + 1) (num k ++ rest) (by unfold mostNum; unfold mostLen at hb; omega)
    have ht2 := takeNum_num k rest (by unfold mostNum; unfold mostLen at hb; omega)
    rw [dGo_copy ht (by omega) ht2, show (2 * (n - 1) + 1) / 2 + 1 = n by omega, if_pos ⟨hs, hk⟩]
theorem d_mid {base m : List UInt8} {size : Nat} {out rest : List UInt8} (hb : base.length ≤ mostLen) (hm : m.length ≤ mostLen) (hs : out.length + m.length ≤ size) : ∀ (f i frm : Nat), m.length - i ≤ f → frm ≤ i → i ≤ m.length →
    dGo base size (out ++ m.take frm) (mid base m f i frm ++ rest) = dGo base size (out ++ m) rest := by
  have hend : ∀ frm, frm ≤ m.length → dGo base size (out ++ m.take frm) (runB (m.drop frm) ++ rest) = dGo base size (out ++ m) rest := fun frm hf => by
    rw [d_run (by rw [List.length_drop]; omega) (by rw [List.length_drop, List.length_append, List.length_take]; omega), List.append_assoc, List.take_append_drop]
  intro f
  induction f with
  | zero => intro i frm h1 h2 h3; rw [mid]; exact hend frm (by omega)
  | succ f ih =>
    intro i frm h1 h2 h3
    rw [mid]
    split
    · cases hk : blockAt base (m.drop i) with
      | none => exact ih _ _ (by omega) (by omega) (by omega)
      | some k =>
        have hsp := blockAt_spec hk
        have hl := begins_le (base.drop k) (m.drop i)
        have htk := begins_take (a := base.drop k) (b := m.drop i) (Nat.le_refl _)
        rw [List.length_drop, List.length_drop] at hl
        simp only [List.append_assoc]
        obtain ⟨g, hg⟩ : ∃ g, g = begins (base.drop k) (m.drop i) := ⟨_, rfl⟩
        rw [← hg] at hl hsp htk ⊢
        have e1 : out ++ (m.take frm ++ (m.drop frm).take (i - frm)) = out ++ m.take i := by
          congr 1
          rw [← List.take_add]
          congr 1
          omega
        have e2 : out ++ (m.take i ++ (base.drop k).take g) = out ++ m.take (i + g) := by
          congr 1
          rw [htk, ← List.take_add]
        rw [d_run (by rw [List.length_take, List.length_drop]; omega) (by rw [List.length_take, List.length_drop, List.length_append, List.length_take]; omega), List.append_assoc, e1,
          d_copy hb (by rw [List.length_append, List.length_take]; omega) (by omega), List.append_assoc, e2]
        exact ih _ _ (by omega) (Nat.le_refl _) (by omega)
    · exact hend frm (by omega)
/-- There and back, in as much room as it wants. -/
theorem apply_enc {base target : List UInt8} (hb : base.length ≤ mostLen) (ht : target.length ≤ mostLen) (most : Int) : applyL base (encL base target) most = if (target.length : Int) ≤ most then some target else none := by
  have hp := begins_le base target
  have hpt := begins_take (a := base) (b := target) (Nat.le_refl _)
  have he := ends_le (base.drop (begins base target)) (target.drop (begins base target))
  have hed := ends_drop (base.drop (begins base target)) (target.drop (begins base target))
  unfold applyL encL
  rw [takeNum_num _ _ (by unfold mostNum; unfold mostLen at hb; omega)]
  simp only
  rw [if_pos trivial, takeNum_num _ _ (by unfold mostNum; unfold mostLen at ht; omega)]
  simp only
  obtain ⟨p, hp'⟩ : ∃ p, p = begins base target := ⟨_, rfl⟩
  rw [← hp'] at hp hpt he hed ⊢
  obtain ⟨e, he'⟩ : ∃ e, e = ends (base.drop p) (target.drop p) := ⟨_, rfl⟩
  rw [← he'] at he hed ⊢
  rw [List.length_drop, List.length_drop] at he
  rw [List.length_drop, List.length_drop, List.drop_drop, List.drop_drop, show p + (base.length - p - e) = base.length - e by omega, show p + (target.length - p - e) = target.length - e by omega] at hed
  have hml : ((target.drop p).take (target.length - p - e)).length = target.length - p - e := by rw [List.length_take, List.length_drop]; omega
  have h1 := d_mid (base := base) (m := (target.drop p).take (target.length - p - e)) (size := target.length) (out := [] ++ (base.drop 0).take p) (rest := copyOf e (base.length - e)) hb (by omega)
    (by rw [hml, List.nil_append, List.drop_zero, List.length_take]; omega) ((target.drop p).take (target.length - p - e)).length 0 0 (by omega) (Nat.le_refl _) (Nat.zero_le _)
  have h2 := d_copy (base := base) (size := target.length) (n := e) (k := base.length - e) (out := ([] ++ (base.drop 0).take p) ++ (target.drop p).take (target.length - p - e)) (rest := []) hb
    (by rw [List.length_append, hml, List.nil_append, List.drop_zero, List.length_take]; omega) (by omega)
  rw [List.take_zero, List.append_nil] at h1
  rw [List.append_nil] at h2
  have hall : dGo base target.length [] (copyOf p 0 ++ (midL base ((target.drop p).take (target.length - p - e)) ++ copyOf e (base.length - e))) = some target := by
    rw [d_copy hb (by simp; omega) (by omega)]
    unfold midL
    rw [h1, h2, dGo_nil]
    have e3 : ([] ++ (base.drop 0).take p) ++ (target.drop p).take (target.length - p - e) ++ (base.drop (base.length - e)).take e = target := by
      have hlast : (base.drop (base.length - e)).take e = target.drop (target.length - e) := by rw [List.take_of_length_le (by rw [List.length_drop]; omega), hed]
      rw [hlast, List.nil_append, List.drop_zero, hpt, ← List.take_add, show p + (target.length - p - e) = target.length - e by omega, List.take_append_drop]
    rw [e3, if_pos rfl]
  rw [hall]
theorem applyL_other {base base' d : List UInt8} {n : Nat} {p : List UInt8} (h : takeNum d = some (n, p)) (hn : n ≠ base'.length) (most : Int) : applyL base' d most = none := by
  unfold applyL
  rw [h]
  simp only
  rw [if_neg hn]
theorem applyL_cut {base p r : List UInt8} {most : Int} {q : Nat} (h : applyL base p most = some r) (hq : q < p.length) : applyL base (p.take q) most = none := by
  unfold applyL at h ⊢
  cases ht : takeNum p with
  | none => rw [ht] at h; cases h
  | some y =>
    obtain ⟨n, rest⟩ := y
    rw [ht] at h
    simp only at h
    obtain ⟨e1, hm1⟩ := num_takeNum ht
    have l1 := congrArg List.length e1
    rw [List.length_append] at l1
    split at h
    · rename_i hn
      rcases Nat.lt_or_ge q (num n).length with hqn | hqn
      · rw [e1, cut_lt hqn, takeNum_cut' hm1 hqn]
      · have ht' : takeNum (p.take q) = some (n, rest.take (q - (num n).length)) := by rw [e1, cut_app hqn]; exact takeNum_num n _ hm1
        rw [ht']
        simp only
        rw [if_pos hn]
        cases ht2 : takeNum rest with
        | none => rw [ht2] at h; cases h
        | some z =>
          obtain ⟨size, rest2⟩ := z
          rw [ht2] at h
          simp only at h
          obtain ⟨e2, hm2⟩ := num_takeNum ht2
          have l2 := congrArg List.length e2
          rw [List.length_append] at l2
          split at h
          · rename_i hc
            rcases Nat.lt_or_ge (q - (num n).length) (num size).length with hqs | hqs
            · rw [e2, cut_lt hqs, takeNum_cut' hm2 hqs]
            · have ht2' : takeNum (rest.take (q - (num n).length)) = some (size, rest2.take (q - (num n).length - (num size).length)) := by rw [e2, cut_app hqs]; exact takeNum_num size _ hm2
              rw [ht2']
              simp only
              rw [if_pos hc]
              exact d_cut _ _ _ _ (Nat.le_refl _) h (by omega)
          · cases h
    · cases h
theorem applyL_more {base p r : List UInt8} {most : Int} (x : UInt8) (h : applyL base p most = some r) : applyL base (p ++ [x]) most = none := by
  unfold applyL at h ⊢
  cases ht : takeNum p with
  | none => rw [ht] at h; cases h
  | some y =>
    obtain ⟨n, rest⟩ := y
    rw [ht] at h
    simp only at h
    obtain ⟨e1, hm1⟩ := num_takeNum ht
    split at h
    · rename_i hn
      have ht' : takeNum (p ++ [x]) = some (n, rest ++ [x]) := by rw [e1, List.append_assoc]; exact takeNum_num n _ hm1
      rw [ht']
      simp only
      rw [if_pos hn]
      cases ht2 : takeNum rest with
      | none => rw [ht2] at h; cases h
      | some z =>
        obtain ⟨size, rest2⟩ := z
        rw [ht2] at h
        simp only at h
        obtain ⟨e2, hm2⟩ := num_takeNum ht2
        split at h
        · rename_i hc
          have ht2' : takeNum (rest ++ [x]) = some (size, rest2 ++ [x]) := by rw [e2, List.append_assoc]; exact takeNum_num size _ hm2
          rw [ht2']
          simp only
          rw [if_pos hc]
          exact d_more x _ _ _ (Nat.le_refl _) h
        · cases h
    · cases h
theorem encL_pos (base target : List UInt8) : 0 < (encL base target).length := by
  unfold encL
  rw [List.length_append]
  have := num_pos base.length
  omega

/-- What it costs. -/
theorem copyOf_cost {n k : Nat} (hn : n ≤ 1048576) (hk : k < 2097152) : (copyOf n k).length ≤ 6 := by
  unfold copyOf
  split
  · simp
  · rw [List.length_append]
    have := num3 (n := 2 * (n - 1) + 1) (by omega)
    have := num3 hk
    omega
theorem copyOf_cost0 {n : Nat} (hn : n ≤ 1048576) : (copyOf n 0).length ≤ 4 := by
  unfold copyOf
  split
  · simp
  · rw [List.length_append]
    have := num3 (n := 2 * (n - 1) + 1) (by omega)
    have := num1 (n := 0) (by omega)
    omega
theorem mid_cost {base m : List UInt8} (hb : base.length ≤ 1048576) (hm : m.length ≤ 1048576) : ∀ (f i frm : Nat), frm ≤ i → i ≤ m.length → (mid base m f i frm).length ≤ m.length - frm + 3 := by
  have hend : ∀ frm, frm ≤ m.length → (runB (m.drop frm)).length ≤ m.length - frm + 3 := fun frm hf => by
    have := (runB_cost (m.drop frm) (by rw [List.length_drop]; omega)).2.2.2
    rw [List.length_drop] at this
    exact this
  intro f
  induction f with
  | zero => intro i frm h1 h2; rw [mid]; exact hend frm (by omega)
  | succ f ih =>
    intro i frm h1 h2
    rw [mid]
    split
    · cases hk : blockAt base (m.drop i) with
      | none => exact ih _ _ (by omega) (by omega)
      | some k =>
        have hsp := blockAt_spec hk
        have hl := begins_le (base.drop k) (m.drop i)
        rw [List.length_drop, List.length_drop] at hl
        simp only
        obtain ⟨g, hg⟩ : ∃ g, g = begins (base.drop k) (m.drop i) := ⟨_, rfl⟩
        rw [← hg] at hl hsp ⊢
        have h3 := ih (i + g) (i + g) (Nat.le_refl _) (by omega)
        have h4 := copyOf_cost (n := g) (k := k) (by omega) (by omega)
        have h5 := (runB_cost ((m.drop frm).take (i - frm)) (by rw [List.length_take, List.length_drop]; omega)).2.2.2
        rw [List.length_take, List.length_drop] at h5
        rw [List.length_append, List.length_append]
        omega
    · exact hend frm (by omega)
theorem enc_cost {base target : List UInt8} (hb : base.length ≤ 1048576) (ht : target.length ≤ 1048576) :
    (encL base target).length ≤ target.length - begins base target - ends (base.drop (begins base target)) (target.drop (begins base target)) + 19 := by
  have hp := begins_le base target
  have he := ends_le (base.drop (begins base target)) (target.drop (begins base target))
  unfold encL midL
  obtain ⟨p, hp'⟩ : ∃ p, p = begins base target := ⟨_, rfl⟩
  rw [← hp'] at hp he ⊢
  obtain ⟨e, he'⟩ : ∃ e, e = ends (base.drop p) (target.drop p) := ⟨_, rfl⟩
  rw [← he'] at he ⊢
  rw [List.length_drop, List.length_drop] at he
  have hml : ((target.drop p).take (target.length - p - e)).length = target.length - p - e := by rw [List.length_take, List.length_drop]; omega
  have h1 := mid_cost (base := base) (m := (target.drop p).take (target.length - p - e)) hb (by omega) ((target.drop p).take (target.length - p - e)).length 0 0 (Nat.le_refl _) (Nat.zero_le _)
  have h2 := copyOf_cost0 (n := p) (by omega)
  have h3 := copyOf_cost (n := e) (k := base.length - e) (by omega) (by omega)
  have h4 := num3 (n := base.length) (by omega)
  have h5 := num3 (n := target.length) (by omega)
  simp only [List.length_append]
  omega
theorem enc_self {base : List UInt8} (hb : base.length ≤ 1048576) : (encL base base).length ≤ 13 := by
  have hp : begins base base = base.length := Nat.le_antisymm (begins_le base base).1 (begins_ge (Nat.le_refl _) (Nat.le_refl _) fun _ _ => rfl)
  have h2 := copyOf_cost0 (n := base.length) hb
  have h4 := num3 (n := base.length) (by omega)
  unfold encL
  rw [hp, List.drop_length]
  simp [ends, begins, cnt, midL, mid, runB, copyOf] at h2 ⊢
  omega
/-- A run is all that it costs. -/
theorem enc_run {base run : List UInt8} {p q : Nat} (hpq : p ≤ q) (hq : q ≤ base.length) (hb : base.length + run.length ≤ 1048576) : (encL base (base.take p ++ (run ++ base.drop q))).length ≤ run.length + 40 := by
  obtain ⟨t, ht⟩ : ∃ t, t = base.take p ++ (run ++ base.drop q) := ⟨_, rfl⟩
  have htl : t.length = p + (run.length + (base.length - q)) := by rw [ht, List.length_append, List.length_append, List.length_take, List.length_drop]; omega
  have hc := enc_cost (base := base) (target := t) (by omega) (by omega)
  rw [← ht]
  have hbl := begins_le base t
  have hp : p ≤ begins base t := begins_of_take (by omega) (by omega) (by rw [ht, List.take_append_of_le_length (by rw [List.length_take]; omega), List.take_take, Nat.min_self])
  obtain ⟨p', hp'⟩ : ∃ x, x = begins base t := ⟨_, rfl⟩
  rw [← hp'] at hc hbl hp
  have hge : min (base.length - q) (min (base.length - p') (t.length - p')) ≤ ends (base.drop p') (t.drop p') := by
    refine ends_ge (by rw [List.length_drop]; omega) (by rw [List.length_drop]; omega) ?_
    obtain ⟨s, hs⟩ : ∃ s, s = min (base.length - q) (min (base.length - p') (t.length - p')) := ⟨_, rfl⟩
    rw [← hs, List.length_drop, List.length_drop, List.drop_drop, List.drop_drop, show p' + (base.length - p' - s) = base.length - s by omega, show p' + (t.length - p' - s) = t.length - s by omega]
    have e1 : t.drop (t.length - s) = (base.drop q).drop (base.length - q - s) := by
      rw [ht, ← List.append_assoc, List.drop_append, List.drop_eq_nil_of_le (by simp only [List.length_append, List.length_take, List.length_drop]; omega), List.nil_append]
      congr 1
      simp only [List.length_append, List.length_take, List.length_drop]
      omega
    rw [e1, List.drop_drop]
    congr 1
    omega
  omega
end Go.Dol
