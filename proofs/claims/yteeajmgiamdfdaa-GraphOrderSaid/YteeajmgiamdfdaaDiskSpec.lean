/- What the layer 'disk' computes, in plain Lean: files in order of their names; what is laid, taken away, renamed; room. No program is in sight. Conditions: none beyond what each lemma names. -/
import Derived.Test.YteeajmgiamdfdaaWords2
import Derived.Laws.Cover1
namespace Go.Dol
open Go.RowKit
set_option linter.unusedVariables false

/-- A file: its name, its bytes. -/
abbrev Fil := ByteArray × List UInt8
/-- Names' order. -/
def sLt (a b : ByteArray) : Bool := decide (a.data.toList < b.data.toList)
theorem ba_ext {a b : ByteArray} (h : a.data.toList = b.data.toList) : a = b := by
  cases a; cases b
  congr 1
  exact Array.toList_inj.1 h
theorem sLt_irrefl (a : ByteArray) : sLt a a = false := by
  unfold sLt
  exact decide_eq_false (List.lt_irrefl _)
theorem sLt_trans {a b c : ByteArray} (h1 : sLt a b = true) (h2 : sLt b c = true) : sLt a c = true := by
  unfold sLt at *
  exact decide_eq_true (List.lt_trans (of_decide_eq_true h1) (of_decide_eq_true h2))
theorem sLt_total {a b : ByteArray} (h1 : sLt a b = false) (hne : a ≠ b) : sLt b a = true := by
  unfold sLt at *
  have h := of_decide_eq_false h1
  refine decide_eq_true ?_
  rcases Decidable.em (b.data.toList < a.data.toList) with hb | hb
  · exact hb
  · exact absurd (ba_ext (List.le_antisymm (List.not_lt.1 hb) (List.not_lt.1 h))) hne
theorem sLt_asymm {a b : ByteArray} (h1 : sLt a b = true) : sLt b a = false := by
  cases h : sLt b a with
  | false => rfl
  | true =>
    have := sLt_trans h1 h
    rw [sLt_irrefl] at this
    cases this
theorem sLt_ne {a b : ByteArray} (h1 : sLt a b = true) : a ≠ b := by
  rintro rfl
  rw [sLt_irrefl] at h1
  cases h1

/-- May a name be? -/
def nameB (s : ByteArray) : Bool := decide (1 ≤ s.size) && decide (s.size ≤ 200) && !s.data.toList.contains 0

/-- A file's bytes; where it would be; with other bytes, or laid there; gone. -/
def lookF : List Fil → ByteArray → Option (List UInt8)
  | [], _ => none
  | f :: r, n => if sLt f.1 n = true then lookF r n else if f.1 = n then some f.2 else none
def findF : List Fil → ByteArray → Nat
  | [], _ => 0
  | f :: r, n => if sLt f.1 n = true then findF r n + 1 else 0
def putF : List Fil → ByteArray → List UInt8 → List Fil
  | [], n, b => [(n, b)]
  | f :: r, n, b => if sLt f.1 n = true then f :: putF r n b else if f.1 = n then (n, b) :: r else (n, b) :: f :: r
def dropF : List Fil → ByteArray → List Fil
  | [], _ => []
  | f :: r, n => if sLt f.1 n = true then f :: dropF r n else if f.1 = n then r else f :: r
/-- Files in order of their names, no name twice. -/
def InOrder (l : List Fil) : Prop := l.Pairwise fun a b => sLt a.1 b.1 = true
def costF (f : Fil) : Int := 16 + f.1.size + f.2.length
def costs : List Fil → Int
  | [] => 0
  | f :: r => costF f + costs r

theorem InOrder.tail {f : Fil} {r : List Fil} (h : InOrder (f :: r)) : InOrder r := (List.pairwise_cons.1 h).2
theorem InOrder.head {f : Fil} {r : List Fil} (h : InOrder (f :: r)) : ∀ g ∈ r, sLt f.1 g.1 = true := (List.pairwise_cons.1 h).1
theorem look_none {l : List Fil} {n : ByteArray} (h : InOrder l) : lookF l n = none ↔ ∀ f ∈ l, f.1 ≠ n := by
  induction l with
  | nil => simp [lookF]
  | cons f r ih =>
    unfold lookF
    split
    · rename_i hlt
      rw [ih h.tail]
      simp only [List.mem_cons, forall_eq_or_imp]
      exact ⟨fun hr => ⟨sLt_ne hlt, hr⟩, fun hr => hr.2⟩
    · rename_i hlt
      split
      · rename_i he
        simp [he]
      · rename_i he
        simp only [List.mem_cons, forall_eq_or_imp, true_iff]
        refine ⟨he, fun g hg e => ?_⟩
        have h1 := h.head g hg
        rw [e] at h1
        exact hlt h1
theorem look_some {l : List Fil} {n : ByteArray} {b : List UInt8} (h : InOrder l) : lookF l n = some b ↔ (n, b) ∈ l := by
  induction l with
  | nil => simp [lookF]
  | cons f r ih =>
    unfold lookF
    split
    · rename_i hlt
      rw [ih h.tail]
      simp only [List.mem_cons]
      refine ⟨.inr, fun hr => ?_⟩
      rcases hr with e | hr
      · rw [← e] at hlt
        exact absurd rfl (sLt_ne hlt)
      · exact hr
    · rename_i hlt
      have hno : (n, b) ∉ r := fun hm => hlt (h.head _ hm)
      split
      · rename_i he
        simp only [List.mem_cons, hno, or_false, Option.some.injEq]
        refine ⟨fun e => ?_, fun e => ?_⟩
        · rw [← he, ← e]
        · rw [← e]
      · rename_i he
        simp only [List.mem_cons, hno, or_false, reduceCtorEq, false_iff]
        intro e
        exact he (by rw [← e])
theorem put_mem {l : List Fil} {n : ByteArray} {b : List UInt8} : ∀ f ∈ putF l n b, f = (n, b) ∨ f ∈ l := by
  induction l with
  | nil => simp [putF]
  | cons g r ih =>
    intro f hf
    unfold putF at hf
    split at hf
    · rcases List.mem_cons.1 hf with e | hr
      · exact .inr (by rw [e]; exact List.mem_cons_self ..)
      · rcases ih f hr with e | hm
        · exact .inl e
        · exact .inr (List.mem_cons_of_mem _ hm)
    · split at hf
      · rcases List.mem_cons.1 hf with e | hr
        · exact .inl e
        · exact .inr (List.mem_cons_of_mem _ hr)
      · rcases List.mem_cons.1 hf with e | hr
        · exact .inl e
        · exact .inr hr
theorem drop_mem {l : List Fil} {n : ByteArray} : ∀ f ∈ dropF l n, f ∈ l := by
  induction l with
  | nil => simp [dropF]
  | cons g r ih =>
    intro f hf
    unfold dropF at hf
    split at hf
    · rcases List.mem_cons.1 hf with e | hr
      · rw [e]
        exact List.mem_cons_self ..
      · exact List.mem_cons_of_mem _ (ih f hr)
    · split at hf
      · exact List.mem_cons_of_mem _ hf
      · exact hf
theorem put_order {l : List Fil} {n : ByteArray} {b : List UInt8} (h : InOrder l) : InOrder (putF l n b) := by
  induction l with
  | nil => exact List.pairwise_singleton ..
  | cons f r ih =>
    unfold putF
    split
    · rename_i hlt
      refine List.pairwise_cons.2 ⟨fun g hg => ?_, ih h.tail⟩
      rcases put_mem g hg with e | hm
      · rw [e]
        exact hlt
      · exact h.head g hm
    · rename_i hlt
      split
      · rename_i he
        refine List.pairwise_cons.2 ⟨fun g hg => ?_, h.tail⟩
        have := h.head g hg
        rw [he] at this
        exact this
      · rename_i he
        have hnf : sLt n f.1 = true := sLt_total (by simpa using hlt) he
        refine List.pairwise_cons.2 ⟨fun g hg => ?_, h⟩
        rcases List.mem_cons.1 hg with e | hm
        · rw [e]
          exact hnf
        · exact sLt_trans hnf (h.head g hm)
theorem drop_order {l : List Fil} {n : ByteArray} (h : InOrder l) : InOrder (dropF l n) := by
  induction l with
  | nil => exact h
  | cons f r ih =>
    unfold dropF
    split
    · exact List.pairwise_cons.2 ⟨fun g hg => h.head g (drop_mem g hg), ih h.tail⟩
    · split
      · exact h.tail
      · exact h
theorem put_perm (l : List Fil) (n : ByteArray) (b : List UInt8) : (putF l n b).Perm ((n, b) :: dropF l n) := by
  induction l with
  | nil => exact .refl _
  | cons f r ih =>
    unfold putF dropF
    split
    · exact (ih.cons f).trans (.swap _ _ _)
    · split
      · exact .refl _
      · exact .refl _
theorem drop_perm {l : List Fil} {n : ByteArray} {b : List UInt8} (hb : lookF l n = some b) : l.Perm ((n, b) :: dropF l n) := by
  induction l with
  | nil => cases hb
  | cons f r ih =>
    unfold lookF at hb
    unfold dropF
    split at hb
    · rename_i hlt
      rw [if_pos hlt]
      exact ((ih hb).cons f).trans (.swap _ _ _)
    · rename_i hlt
      rw [if_neg hlt]
      split at hb
      · rename_i he
        rw [if_pos he]
        injection hb with hb
        have : f = (n, b) := by rw [← he, ← hb]
        rw [this]
      · cases hb
theorem drop_none {l : List Fil} {n : ByteArray} (hb : lookF l n = none) : dropF l n = l := by
  induction l with
  | nil => rfl
  | cons f r ih =>
    unfold lookF at hb
    unfold dropF
    split at hb
    · rename_i hlt
      rw [if_pos hlt, ih hb]
    · rename_i hlt
      rw [if_neg hlt]
      split at hb
      · cases hb
      · rename_i he
        rw [if_neg he]
theorem find_le (l : List Fil) (n : ByteArray) : findF l n ≤ l.length := by
  induction l with
  | nil => exact Nat.le_refl _
  | cons f r ih =>
    unfold findF
    split
    · simp; omega
    · simp
theorem find_before {l : List Fil} {n : ByteArray} {k : Nat} (h : k < findF l n) : ∃ f, l[k]? = some f ∧ sLt f.1 n = true := by
  induction l generalizing k with
  | nil => simp [findF] at h
  | cons f r ih =>
    unfold findF at h
    split at h
    · rename_i hlt
      cases k with
      | zero => exact ⟨f, rfl, hlt⟩
      | succ k => exact ih (by omega)
    · omega
theorem find_at {l : List Fil} {n : ByteArray} {f : Fil} (h : l[findF l n]? = some f) : sLt f.1 n = false := by
  induction l with
  | nil => cases h
  | cons g r ih =>
    unfold findF at h
    split at h
    · exact ih h
    · rename_i hlt
      have : g = f := by simpa using h
      rw [← this]
      simpa using hlt
/-- Counting up to the place: at each place ahead of it the name there is less. -/
theorem find_is {l : List Fil} {n : ByteArray} {k : Nat} (hk : k ≤ l.length) (hb : ∀ j, j < k → ∃ f, l[j]? = some f ∧ sLt f.1 n = true) (ha : ∀ f, l[k]? = some f → sLt f.1 n = false) : findF l n = k := by
  rcases Nat.lt_trichotomy (findF l n) k with h | h | h
  · obtain ⟨f, hf, hlt⟩ := hb _ h
    rw [find_at hf] at hlt
    cases hlt
  · exact h
  · obtain ⟨f, hf, hlt⟩ := find_before h
    rw [ha f hf] at hlt
    cases hlt
theorem look_at (l : List Fil) (n : ByteArray) : lookF l n = match l[findF l n]? with | some f => if f.1 = n then some f.2 else none | none => none := by
  induction l with
  | nil => rfl
  | cons f r ih =>
    unfold lookF findF
    split
    · rw [ih]
      rfl
    · rfl
theorem put_at (l : List Fil) (n : ByteArray) (b : List UInt8) : putF l n b = l.take (findF l n) ++ (n, b) :: l.drop (findF l n + if (lookF l n).isSome = true then 1 else 0) := by
  induction l with
  | nil => rfl
  | cons f r ih =>
    unfold putF lookF findF
    split
    · rw [ih]
      simp only [List.take_succ_cons, List.cons_append, List.cons.injEq, true_and]
      rw [show findF r n + 1 + (if (lookF r n).isSome = true then 1 else 0) = (findF r n + if (lookF r n).isSome = true then 1 else 0) + 1 by omega, List.drop_succ_cons]
    · split
      · simp
      · simp
theorem drop_at {l : List Fil} {n : ByteArray} (h : (lookF l n).isSome = true) : dropF l n = l.take (findF l n) ++ l.drop (findF l n + 1) := by
  induction l with
  | nil => cases h
  | cons f r ih =>
    unfold lookF at h
    unfold dropF findF
    split at h
    · rename_i hlt
      rw [if_pos hlt, if_pos hlt, ih h]
      simp
    · rename_i hlt
      rw [if_neg hlt, if_neg hlt]
      split at h
      · rename_i he
        rw [if_pos he]
        simp
      · cases h

theorem costs_perm {l m : List Fil} (h : l.Perm m) : costs l = costs m := by
  induction h with
  | nil => rfl
  | cons x _ ih => simp only [costs, ih]
  | swap x y l => simp only [costs]; omega
  | trans _ _ h1 h2 => rw [h1, h2]
theorem costs_append (l m : List Fil) : costs (l ++ m) = costs l + costs m := by
  induction l with
  | nil => simp [costs]
  | cons f r ih => simp only [List.cons_append, costs, ih]; omega
theorem costF_pos (f : Fil) : 16 ≤ costF f := by unfold costF; omega
theorem costs_nonneg (l : List Fil) : 0 ≤ costs l := by
  induction l with
  | nil => exact Int.le_refl _
  | cons f r ih => have := costF_pos f; simp only [costs]; omega
theorem costs_put (l : List Fil) (n : ByteArray) (b : List UInt8) : costs (putF l n b) = costF (n, b) + costs (dropF l n) := costs_perm (put_perm l n b)
theorem costs_drop {l : List Fil} {n : ByteArray} {b : List UInt8} (h : lookF l n = some b) : costs l = costF (n, b) + costs (dropF l n) := costs_perm (drop_perm h)
theorem look_put {l : List Fil} {n : ByteArray} {b : List UInt8} (h : InOrder l) (m : ByteArray) : lookF (putF l n b) m = if m = n then some b else lookF l m := by
  split
  · rename_i e
    subst e
    exact (look_some (put_order h)).2 ((put_perm l m b).mem_iff.2 (List.mem_cons_self ..))
  · rename_i e
    cases hl : lookF l m with
    | none =>
      refine (look_none (put_order h)).2 fun f hf => ?_
      rcases put_mem f hf with e2 | hm
      · rw [e2]
        exact fun e3 => e e3.symm
      · exact (look_none h).1 hl f hm
    | some c =>
      refine (look_some (put_order h)).2 ((put_perm l n b).mem_iff.2 (List.mem_cons_of_mem _ ?_))
      have hm := (look_some h).1 hl
      cases hn : lookF l n with
      | none => rwa [drop_none hn]
      | some d =>
        rcases List.mem_cons.1 ((drop_perm hn).mem_iff.1 hm) with e2 | hm2
        · exact absurd (by injection e2) e
        · exact hm2
theorem drop_gone {l : List Fil} {n : ByteArray} (h : InOrder l) : ∀ f ∈ dropF l n, f.1 ≠ n := by
  induction l with
  | nil => simp [dropF]
  | cons g r ih =>
    intro f hf
    unfold dropF at hf
    split at hf
    · rename_i hlt
      rcases List.mem_cons.1 hf with e | hr
      · rw [e]
        exact sLt_ne hlt
      · exact ih h.tail f hr
    · rename_i hlt
      split at hf
      · rename_i he
        have := h.head f hf
        rw [he] at this
        exact (sLt_ne this).symm
      · rename_i he
        rcases List.mem_cons.1 hf with e | hr
        · rw [e]
          exact he
        · intro e
          have h1 := h.head f hr
          rw [e] at h1
          exact hlt h1
theorem look_drop {l : List Fil} {n : ByteArray} (h : InOrder l) (m : ByteArray) : lookF (dropF l n) m = if m = n then none else lookF l m := by
  split
  · rename_i e
    subst e
    exact (look_none (drop_order h)).2 (drop_gone h)
  · rename_i e
    cases hl : lookF l m with
    | none => exact (look_none (drop_order h)).2 fun f hf => (look_none h).1 hl f (drop_mem f hf)
    | some c =>
      refine (look_some (drop_order h)).2 ?_
      have hm := (look_some h).1 hl
      cases hn : lookF l n with
      | none => rwa [drop_none hn]
      | some d =>
        rcases List.mem_cons.1 ((drop_perm hn).mem_iff.1 hm) with e2 | hm2
        · exact absurd (by injection e2) e
        · exact hm2
/-- Two lists in order of the same files are the same. -/
theorem order_unique {l m : List Fil} (hl : InOrder l) (hm : InOrder m) (h : l.Perm m) : l = m := by
  induction l generalizing m with
  | nil => exact (List.nil_perm.1 h).symm ▸ rfl
  | cons f r ih =>
    cases m with
    | nil => exact absurd h.symm (by simp)
    | cons g s =>
      have hfg : f = g := by
        rcases List.mem_cons.1 (h.mem_iff.1 (List.mem_cons_self ..)) with e | hs
        · exact e
        · rcases List.mem_cons.1 (h.mem_iff.2 (List.mem_cons_self (a := g) (l := s))) with e | hr
          · exact e.symm
          · have h1 := hm.head f hs
            have h2 := hl.head g hr
            rw [sLt_asymm h1] at h2
            cases h2
      subst hfg
      rw [ih hl.tail hm.tail ((List.perm_cons f).1 h)]

/-- A disk, as the document has it. -/
structure Dk where
  cap : Int
  l : List Fil
  done : Nat
  left : Int
  dark : Bool
def frD (D : Dk) : Int := IntKind.i64.wrap (D.cap - costs D.l)
/-- A raw write that costs more, or less. -/
def spendD (D : Dk) (l' : List Fil) : Int × Dk :=
  if D.left = 0 then (5, { D with dark := true, left := -1 })
  else (0, { D with left := if 0 < D.left then D.left - 1 else D.left, done := D.done + 1, l := l' })
def roomD (D : Dk) (more : Int) (l' : List Fil) : Int × Dk := if 0 < more ∧ frD D < more then (4, D) else spendD D l'
/-- What an append costs; what a renaming must have free. -/
def appMore (D : Dk) (n : ByteArray) (b : List UInt8) : Int := b.length + (match lookF D.l n with | none => 16 + (n.size : Int) | some _ => 0)
def renNeed (D : Dk) (a b : ByteArray) : Int := match lookF D.l b with | none => (b.size : Int) - a.size | some _ => 0
def appD (D : Dk) (n : ByteArray) (b : List UInt8) : Int × Dk :=
  if 64 < b.length ∨ nameB n = false then (1, D) else if D.dark = true then (5, D) else
    roomD D (appMore D n b) (putF D.l n ((lookF D.l n).getD [] ++ b))
/-- May a file that is there be touched? -/
def touchD (D : Dk) (n : ByteArray) : Int := if nameB n = false then 1 else if D.dark = true then 5 else if (lookF D.l n).isSome = true then 0 else 3
def remD (D : Dk) (n : ByteArray) : Int × Dk := if touchD D n ≠ 0 then (touchD D n, D) else spendD D (dropF D.l n)
def syncD (D : Dk) (n : ByteArray) : Int × Dk := if touchD D n ≠ 0 then (touchD D n, D) else spendD D D.l
def renD (D : Dk) (a b : ByteArray) : Int × Dk :=
  if nameB a = false ∨ nameB b = false then (1, D) else if touchD D a ≠ 0 then (touchD D a, D) else
    roomD D (renNeed D a b) (putF (dropF D.l a) b ((lookF D.l a).getD []))
def readD (D : Dk) (n : ByteArray) : List UInt8 × Int := if nameB n = false then ([], 1) else match lookF D.l n with | none => ([], 3) | some b => (b, 0)
def cutD (D : Dk) (k : Int) : Int × Dk := if k < 0 then (1, D) else (0, if D.dark = true then D else { D with left := k })
def onD (D : Dk) : Dk := { D with dark := false, left := -1 }
end Go.Dol
