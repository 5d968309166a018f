/- The layer 'graph' in plain Lean: the best common ancestors, and the order with parents first. No program is in sight. Conditions: none beyond what each lemma names. -/
import Derived.Test.YteeajmgiamdfdaaInsS
namespace Go.Dol
open Go.RowKit
set_option linter.unusedVariables false
/-- A best common ancestor. -/
def BaseP (l : List Nd) (a b x : ByteArray) : Prop := (Rch l [a] x ∧ Rch l [b] x) ∧ ¬ ∃ o, (Rch l [a] o ∧ Rch l [b] o) ∧ Rch l [o] x ∧ ¬ Rch l [x] o
theorem BaseP.turn {l : List Nd} {a b x : ByteArray} : BaseP l a b x ↔ BaseP l b a x := by
  unfold BaseP
  constructor <;> rintro ⟨⟨h1, h2⟩, h3⟩ <;> exact ⟨⟨h2, h1⟩, fun ⟨o, ⟨h4, h5⟩, h6⟩ => h3 ⟨o, ⟨h5, h4⟩, h6⟩⟩
/-- What is reached from one that is reached is reached. -/
theorem Rch.trans {l : List Nd} {fr : List ByteArray} {b c : ByteArray} (h1 : Rch l fr b) (h2 : Rch l [b] c) : Rch l fr c := by
  induction h2 with
  | base h _ => rw [List.mem_singleton.1 h]; exact h1
  | step _ h3 h4 h5 ih => exact .step ih h3 h4 h5
theorem Rch.self {l : List Nd} {x : ByteArray} (h : (parF l x).isSome = true) : Rch l [x] x := .base (List.mem_singleton.2 rfl) h
theorem Rch.from_ {l : List Nd} {fr : List ByteArray} {x : ByteArray} : Rch l fr x ↔ ∃ a ∈ fr, Rch l [a] x := by
  constructor
  · intro h
    induction h with
    | base h1 h2 => exact ⟨_, h1, Rch.self h2⟩
    | step _ h3 h4 h5 ih =>
      obtain ⟨a, ha, h⟩ := ih
      exact ⟨a, ha, .step h h3 h4 h5⟩
  · rintro ⟨a, ha, h⟩
    induction h with
    | base h1 h2 => rw [List.mem_singleton.1 h1] at h2 ⊢; exact .base ha h2
    | step _ h3 h4 h5 ih => exact .step ih h3 h4 h5
/-- Its parents: those of none, of one that is not known. -/
def parL (l : List Nd) (x : ByteArray) : List ByteArray := (parF l x).getD []
/-- Are all its parents that are among others there already? -/
def readyO (l : List Nd) (all out : List ByteArray) (x : ByteArray) : Bool := (parL l x).all fun y => !decide (y ∈ all) || decide (y ∈ out)
def nextO (l : List Nd) (all out : List ByteArray) : Option ByteArray := all.find? fun x => !decide (x ∈ out) && readyO l all out x
def ordO (l : List Nd) (all : List ByteArray) : Nat → List ByteArray → List ByteArray
  | 0, out => out
  | n + 1, out => match nextO l all out with
    | none => out
    | some x => ordO l all n (out ++ [x])
/-- The order of all that is reached. -/
def orderO (l : List Nd) (all : List ByteArray) : List ByteArray := ordO l all all.length []
theorem ordO_none {l : List Nd} {all out : List ByteArray} (h : nextO l all out = none) (n : Nat) : ordO l all n out = out := by
  cases n with
  | zero => rfl
  | succ n => unfold ordO; rw [h]
theorem ordO_some {l : List Nd} {all out : List ByteArray} {x : ByteArray} (h : nextO l all out = some x) (n : Nat) : ordO l all (n + 1) out = ordO l all n (out ++ [x]) := by
  rw [ordO, h]
theorem nextO_some {l : List Nd} {all out : List ByteArray} {x : ByteArray} (h : nextO l all out = some x) : x ∈ all ∧ x ∉ out ∧ readyO l all out x = true := by
  have h1 := List.find?_some h
  have h2 := List.mem_of_find?_eq_some h
  simp only [Bool.and_eq_true, Bool.not_eq_true', decide_eq_false_iff_not] at h1
  exact ⟨h2, h1.1, h1.2⟩
/-- What is not yet in the order. -/
def leftO (all out : List ByteArray) : List ByteArray := all.filter fun x => !decide (x ∈ out)
theorem leftO_nil (all : List ByteArray) : leftO all [] = all := by
  unfold leftO
  refine List.filter_eq_self.2 fun x _ => ?_
  simp
theorem leftO_mem {all out : List ByteArray} {x : ByteArray} : x ∈ leftO all out ↔ x ∈ all ∧ x ∉ out := by
  unfold leftO
  simp
/-- .. asked of what is left alone. -/
theorem find_congr {p q : ByteArray → Bool} {m : List ByteArray} (h : ∀ x, p x = q x) : m.find? p = m.find? q := by
  rw [show p = q from funext h]
theorem nextO_left (l : List Nd) (all out : List ByteArray) : nextO l all out = (leftO all out).find? fun x => (parL l x).all fun y => !decide (y ∈ leftO all out) := by
  have key : ∀ x, readyO l all out x = (parL l x).all fun y => !decide (y ∈ leftO all out) := fun x => by
    unfold readyO
    refine List.all_congr rfl fun y => ?_
    have h : y ∈ leftO all out ↔ y ∈ all ∧ y ∉ out := leftO_mem
    by_cases h1 : y ∈ all <;> by_cases h2 : y ∈ out <;> simp [h1, h2, h]
  have e : nextO l all out = (leftO all out).find? fun x => readyO l all out x := by
    unfold nextO leftO
    rw [List.find?_filter]
    refine find_congr fun x => ?_
    cases readyO l all out x <;> simp
  rw [e]
  exact find_congr key
theorem leftO_step {all out : List ByteArray} (hn : all.Nodup) {i : Nat} {x : ByteArray} (h : (leftO all out)[i]? = some x) : leftO all (out ++ [x]) = (leftO all out).eraseIdx i := by
  have hn2 : (leftO all out).Nodup := List.Nodup.sublist List.filter_sublist hn
  have e : leftO all (out ++ [x]) = (leftO all out).filter fun y => !decide (y = x) := by
    unfold leftO
    rw [List.filter_filter]
    refine List.filter_congr fun y _ => ?_
    by_cases h1 : y ∈ out <;> by_cases h2 : y = x <;> simp [h1, h2]
  rw [e]
  generalize leftO all out = m at h hn2
  clear e hn
  induction m generalizing i with
  | nil => cases h
  | cons z r ih =>
    obtain ⟨h1, h2⟩ := List.nodup_cons.1 hn2
    cases i with
    | zero =>
      have hz : z = x := by simpa using h
      rw [List.eraseIdx_zero, List.tail_cons, List.filter_cons_of_neg (by simp [hz])]
      refine List.filter_eq_self.2 fun y hy => ?_
      have : y ≠ x := fun he => h1 (by rw [hz, ← he]; exact hy)
      simp [this]
    | succ i =>
      have hx : r[i]? = some x := by simpa using h
      have hz : z ≠ x := fun he => h1 (by rw [he]; exact List.mem_of_getElem? hx)
      rw [List.eraseIdx_cons_succ, List.filter_cons_of_pos (by simp [hz]), ih hx h2]
/-- An order that is under way: no id twice, all of them reached. -/
structure OrdOk (all out : List ByteArray) : Prop where
  nodup : out.Nodup
  sub : ∀ x ∈ out, x ∈ all
theorem OrdOk.nil (all : List ByteArray) : OrdOk all [] := ⟨List.nodup_nil, fun x h => (List.not_mem_nil h).elim⟩
theorem OrdOk.snoc {all out : List ByteArray} (h : OrdOk all out) {x : ByteArray} (hx : x ∈ all) (hn : x ∉ out) : OrdOk all (out ++ [x]) := by
  refine ⟨?_, fun y hy => ?_⟩
  · rw [List.nodup_append]
    refine ⟨h.nodup, by simp, fun a ha b hb => ?_⟩
    rw [List.mem_singleton.1 hb]
    exact fun e => hn (by rw [← e]; exact ha)
  · rcases List.mem_append.1 hy with hy | hy
    · exact h.sub y hy
    · rw [List.mem_singleton.1 hy]; exact hx
theorem nodup_len {out : List ByteArray} : ∀ {all : List ByteArray}, out.Nodup → (∀ x ∈ out, x ∈ all) → out.length ≤ all.length := by
  induction out with
  | nil => intro all _ _; exact Nat.zero_le _
  | cons x r ih =>
    intro all hn hs
    obtain ⟨h1, h2⟩ := List.nodup_cons.1 hn
    have hx := hs x (List.mem_cons_self ..)
    have h3 := ih (all := all.filter fun y => !decide (y = x)) h2 fun y hy => List.mem_filter.2 ⟨hs y (List.mem_cons_of_mem _ hy), by
      have : y ≠ x := fun e => h1 (by rw [← e]; exact hy)
      simp [this]⟩
    have h4 : (all.filter fun y => !decide (y = x)).length < all.length := List.length_filter_lt_length_iff_exists.2 ⟨x, hx, by simp⟩
    rw [List.length_cons]
    omega
theorem OrdOk.len {all out : List ByteArray} (h : OrdOk all out) : out.length ≤ all.length := nodup_len h.nodup h.sub
/-- As many as there are: all. -/
theorem OrdOk.full {all out : List ByteArray} (h : OrdOk all out) (hl : all.length ≤ out.length) : ∀ x ∈ all, x ∈ out := by
  intro x hx
  refine Decidable.byContradiction fun hn => ?_
  have h1 := nodup_len (h.snoc hx hn).nodup (h.snoc hx hn).sub
  rw [List.length_append] at h1
  simp at h1
  omega
theorem OrdOk.none {all out : List ByteArray} (h : OrdOk all out) (hl : all.length ≤ out.length) (l : List Nd) : nextO l all out = none := by
  unfold nextO
  rw [List.find?_eq_none]
  intro x hx
  simp [h.full hl x hx]
theorem OrdOk.next {l : List Nd} {all out : List ByteArray} (h : OrdOk all out) {x : ByteArray} (hx : nextO l all out = some x) : OrdOk all (out ++ [x]) := by
  obtain ⟨h1, h2, _⟩ := nextO_some hx
  exact h.snoc h1 h2
/-- From any order under way the same one comes. -/
def goO (l : List Nd) (all out : List ByteArray) : List ByteArray := ordO l all (all.length - out.length) out
theorem goO_start (l : List Nd) (all : List ByteArray) : goO l all [] = orderO l all := rfl
theorem goO_none {l : List Nd} {all out : List ByteArray} (h : nextO l all out = none) : goO l all out = out := ordO_none h _
theorem goO_some {l : List Nd} {all out : List ByteArray} (ho : OrdOk all out) {x : ByteArray} (h : nextO l all out = some x) : goO l all (out ++ [x]) = goO l all out := by
  have h1 := (ho.next h).len
  have e : all.length - out.length = all.length - (out ++ [x]).length + 1 := by
    rw [List.length_append] at h1 ⊢
    simp at h1 ⊢
    omega
  unfold goO
  rw [e, ordO_some h]
theorem goO_full {l : List Nd} {all out : List ByteArray} (ho : OrdOk all out) (hl : all.length ≤ out.length) : goO l all out = out := goO_none (ho.none hl l)
/-- What holds of an order all along holds of what it comes to. -/
theorem goO_ind {l : List Nd} {all : List ByteArray} {p : List ByteArray → Prop} (hs : ∀ out x, OrdOk all out → p out → nextO l all out = some x → p (out ++ [x])) : ∀ (n : Nat) (out : List ByteArray), OrdOk all out → p out → OrdOk all (ordO l all n out) ∧ p (ordO l all n out) := by
  intro n
  induction n with
  | zero => intro out ho hp; exact ⟨ho, hp⟩
  | succ n ih =>
    intro out ho hp
    unfold ordO
    cases h : nextO l all out with
    | none => exact ⟨ho, hp⟩
    | some x => exact ih (out ++ [x]) (ho.next h) (hs out x ho hp h)
theorem orderO_ok (l : List Nd) (all : List ByteArray) : OrdOk all (orderO l all) := (goO_ind (p := fun _ => True) (fun _ _ _ _ _ => trivial) _ _ (OrdOk.nil all) trivial).1
theorem ordO_end {l : List Nd} {all : List ByteArray} : ∀ (n : Nat) (out : List ByteArray), OrdOk all out → all.length ≤ out.length + n → nextO l all (ordO l all n out) = none := by
  intro n
  induction n with
  | zero => intro out ho hl; exact ho.none (by omega) l
  | succ n ih =>
    intro out ho hl
    unfold ordO
    cases h : nextO l all out with
    | none => exact h
    | some x =>
      refine ih _ (ho.next h) ?_
      rw [List.length_append]
      simp
      omega
theorem orderO_end (l : List Nd) (all : List ByteArray) : nextO l all (orderO l all) = none := ordO_end _ _ (OrdOk.nil all) (by simp)
end Go.Dol
