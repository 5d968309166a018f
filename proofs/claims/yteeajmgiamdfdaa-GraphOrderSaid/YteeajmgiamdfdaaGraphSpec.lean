/- What the layer 'graph' computes, in plain Lean: nodes by their ids, what is reached, the rounds of a search. No program is in sight. Conditions: none beyond what each lemma names. -/
import Derived.Test.YteeajmgiamdfdaaDiskSpec
namespace Go.Dol
open Go.RowKit
set_option linter.unusedVariables false
/-- A node: its id, its parents. -/
abbrev Nd := ByteArray × List ByteArray
/-- The parents of the first node of an id. -/
def parF : List Nd → ByteArray → Option (List ByteArray)
  | [], _ => none
  | f :: r, n => if f.1 = n then some f.2 else parF r n
/-- What is reached. -/
inductive Rch (l : List Nd) (from_ : List ByteArray) : ByteArray → Prop
  | base {x : ByteArray} : x ∈ from_ → (parF l x).isSome = true → Rch l from_ x
  | step {x y : ByteArray} {p : List ByteArray} : Rch l from_ y → parF l y = some p → x ∈ p → (parF l x).isSome = true → Rch l from_ x
theorem Rch.known {l : List Nd} {fr : List ByteArray} {x : ByteArray} (h : Rch l fr x) : (parF l x).isSome = true := by
  cases h with
  | base _ h => exact h
  | step _ _ _ h => exact h
/-- A search under way: what was met, what is still to be looked at. -/
structure Srch (l : List Nd) (fr met todo : List ByteArray) : Prop where
  met_ : ∀ x ∈ met, Rch l fr x
  todo_ : ∀ x ∈ todo, (parF l x).isSome = true → Rch l fr x
  from_ : ∀ x ∈ fr, (parF l x).isSome = true → x ∈ met ∨ x ∈ todo
  next_ : ∀ y ∈ met, ∀ p, parF l y = some p → ∀ x ∈ p, (parF l x).isSome = true → x ∈ met ∨ x ∈ todo
theorem Srch.start (l : List Nd) (fr : List ByteArray) : Srch l fr [] fr :=
  ⟨fun x h => (List.not_mem_nil h).elim, fun x h k => .base h k, fun x h _ => .inr h, fun y h => (List.not_mem_nil h).elim⟩
theorem Srch.done {l : List Nd} {fr met : List ByteArray} (h : Srch l fr met []) (x : ByteArray) : x ∈ met ↔ Rch l fr x := by
  refine ⟨h.met_ x, fun hr => ?_⟩
  induction hr with
  | base h1 h2 =>
    rcases h.from_ _ h1 h2 with h3 | h3
    · exact h3
    · exact (List.not_mem_nil h3).elim
  | step _ h1 h2 h3 ih =>
    rcases h.next_ _ ih _ h1 _ h2 h3 with h4 | h4
    · exact h4
    · exact (List.not_mem_nil h4).elim
/-- One that is not known, or was met, is passed by; todo2 is what else is to be looked at. -/
theorem Srch.pass {l : List Nd} {fr met todo todo2 : List ByteArray} {x : ByteArray} (h : Srch l fr met todo) (hp : ∀ y, y ∈ todo ↔ y = x ∨ y ∈ todo2) (hx : parF l x = none ∨ x ∈ met) : Srch l fr met todo2 := by
  have key : ∀ y, (parF l y).isSome = true → (y ∈ met ∨ y ∈ todo) → y ∈ met ∨ y ∈ todo2 := by
    rintro y hk (hy | hy)
    · exact .inl hy
    · rcases (hp y).1 hy with e | hy
      · rw [e] at hk ⊢
        rcases hx with hx | hx
        · rw [hx] at hk; cases hk
        · exact .inl hx
      · exact .inr hy
  exact ⟨h.met_, fun y hy => h.todo_ y ((hp y).2 (.inr hy)), fun y hy hk => key y hk (h.from_ y hy hk), fun z hz p hpz y hy hk => key y hk (h.next_ z hz p hpz y hy hk)⟩
/-- One that is new is met; its parents are to be looked at. -/
theorem Srch.meet {l : List Nd} {fr met met2 todo todo2 p : List ByteArray} {x : ByteArray} (h : Srch l fr met todo) (hx : parF l x = some p) (hm : ∀ y, y ∈ met2 ↔ y = x ∨ y ∈ met) (ht : ∀ y, y ∈ todo → y = x ∨ y ∈ todo2) (hb : ∀ y, y ∈ todo2 → y ∈ todo ∨ y ∈ p) (hpt : ∀ y ∈ p, y ∈ todo2) (hin : x ∈ todo) : Srch l fr met2 todo2 := by
  have hxr : Rch l fr x := h.todo_ x hin (by rw [hx]; rfl)
  have key : ∀ y, (y ∈ met ∨ y ∈ todo) → y ∈ met2 ∨ y ∈ todo2 := by
    rintro y (hy | hy)
    · exact .inl ((hm y).2 (.inr hy))
    · rcases ht y hy with e | hy
      · exact .inl ((hm y).2 (.inl e))
      · exact .inr hy
  refine ⟨fun y hy => ?_, fun y hy hk => ?_, fun y hy hk => key y (h.from_ y hy hk), fun z hz q hq y hy hk => ?_⟩
  · rcases (hm y).1 hy with e | hy
    · rw [e]; exact hxr
    · exact h.met_ y hy
  · rcases hb y hy with hy | hy
    · exact h.todo_ y hy hk
    · exact .step hxr hx hy hk
  · rcases (hm z).1 hz with e | hz
    · rw [e, hx] at hq
      injection hq with hq
      rw [← hq] at hy
      exact .inr (hpt y hy)
    · exact key y (h.next_ z hz q hq y hy hk)
instance memDec (x : ByteArray) (l : List ByteArray) : Decidable (x ∈ l) :=
  decidable_of_iff (∃ y ∈ l, y = x) ⟨fun ⟨y, hy, e⟩ => e ▸ hy, fun h => ⟨x, h, rfl⟩⟩
/-- What a search may still take: so many rounds. -/
def room : List Nd → List ByteArray → List ByteArray → Nat
  | [], _, _ => 0
  | f :: r, seen, met => (if f.1 ∈ seen ∨ f.1 ∈ met then 0 else f.2.length + 1) + room r (f.1 :: seen) met
theorem room_le (l : List Nd) : ∀ (seen met met2 : List ByteArray), (∀ y ∈ met, y ∈ met2) → room l seen met2 ≤ room l seen met := by
  induction l with
  | nil => intro _ _ _ _; exact Nat.le_refl _
  | cons f r ih =>
    intro seen met met2 h
    have h1 := ih (f.1 :: seen) met met2 h
    unfold room
    by_cases h2 : f.1 ∈ seen ∨ f.1 ∈ met
    · have h3 : f.1 ∈ seen ∨ f.1 ∈ met2 := h2.imp id (h _)
      rw [if_pos h2, if_pos h3]
      omega
    · rw [if_neg h2]
      split <;> omega
theorem room_meet (l : List Nd) : ∀ (seen met met2 : List ByteArray) (x : ByteArray) (p : List ByteArray), parF l x = some p → x ∉ seen → x ∉ met → (∀ y ∈ met, y ∈ met2) → x ∈ met2 → room l seen met2 + p.length + 1 ≤ room l seen met := by
  induction l with
  | nil => intro _ _ _ _ _ h; cases h
  | cons f r ih =>
    intro seen met met2 x p hp hs hm hle hx
    unfold parF at hp
    unfold room
    by_cases he : f.1 = x
    · rw [if_pos he] at hp
      injection hp with hp
      rw [if_pos (.inr (by rw [he]; exact hx)), if_neg (by rw [he]; rintro (h | h); exact hs h; exact hm h), hp]
      have := room_le r (f.1 :: seen) met met2 hle
      omega
    · rw [if_neg he] at hp
      have h1 := ih (f.1 :: seen) met met2 x p hp (by rw [List.mem_cons]; rintro (h | h); exact he h.symm; exact hs h) hm hle hx
      by_cases h2 : f.1 ∈ seen ∨ f.1 ∈ met
      · have h3 : f.1 ∈ seen ∨ f.1 ∈ met2 := h2.imp id (hle _)
        rw [if_pos h2, if_pos h3]
        omega
      · rw [if_neg h2]
        split <;> omega
/-- Ids in order, none twice. -/
def Strict (l : List ByteArray) : Prop := l.Pairwise fun a b => sLt a b = true
theorem Strict.tail {x : ByteArray} {l : List ByteArray} (h : Strict (x :: l)) : Strict l := (List.pairwise_cons.1 h).2
/-- Two rows in order of the same ids are the same. -/
theorem Strict.same {l m : List ByteArray} (hl : Strict l) (hm : Strict m) (h : ∀ x, x ∈ l ↔ x ∈ m) : l = m := by
  induction l generalizing m with
  | nil =>
    cases m with
    | nil => rfl
    | cons g s => exact absurd ((h g).2 (List.mem_cons_self ..)) List.not_mem_nil
  | cons f r ih =>
    cases m with
    | nil => exact absurd ((h f).1 (List.mem_cons_self ..)) List.not_mem_nil
    | cons g s =>
      have h1 := (List.pairwise_cons.1 hl).1
      have h2 := (List.pairwise_cons.1 hm).1
      have hfg : f = g := by
        rcases List.mem_cons.1 ((h f).1 (List.mem_cons_self ..)) with e | hs
        · exact e
        · rcases List.mem_cons.1 ((h g).2 (List.mem_cons_self ..)) with e | hr
          · exact e.symm
          · have a := h2 f hs
            have b := h1 g hr
            rw [sLt_asymm a] at b
            cases b
      subst hfg
      rw [ih hl.tail hm.tail fun x => ⟨fun hx => ?_, fun hx => ?_⟩]
      · rcases List.mem_cons.1 ((h x).1 (List.mem_cons_of_mem _ hx)) with e | hs
        · rw [e] at hx
          have := h1 f hx
          rw [sLt_irrefl] at this
          cases this
        · exact hs
      · rcases List.mem_cons.1 ((h x).2 (List.mem_cons_of_mem _ hx)) with e | hr
        · rw [e] at hx
          have := h2 f hx
          rw [sLt_irrefl] at this
          cases this
        · exact hr
end Go.Dol
