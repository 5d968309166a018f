/- What a reader of an object's bytes takes, in plain Lean: what was taken, or that something was wrong. No program is in sight. Conditions: none. -/
import Derived.Test.YtcefbhmmijmefaaObjLaw
namespace Go.Dol
set_option linter.unusedVariables false

/-- From where something was wrong or not (b), t says what there is to take: it was taken (v, l'), or something is wrong now. -/
def Took {α : Type} (t : Option (α × List UInt8)) (b : Bool) (v : α) (l' : List UInt8) (b' : Bool) : Prop := (b' = true ∧ (b = true ∨ t = none)) ∨ (b' = false ∧ b = false ∧ t = some (v, l'))
theorem Took.good {α : Type} {t : Option (α × List UInt8)} {b b' : Bool} {v : α} {l' : List UInt8} (h : Took t b v l' b') (hb : b' = false) : b = false ∧ t = some (v, l') := by
  rcases h with h | h
  · rw [hb] at h
    cases h.1
  · exact h.2
theorem Took.bad {α : Type} {t : Option (α × List UInt8)} {b b' : Bool} {v : α} {l' : List UInt8} (h : Took t b v l' b') (hb : b' = true) : b = true ∨ t = none := by
  rcases h with h | h
  · exact h.2
  · rw [hb] at h
    cases h.1
theorem Took.stay {α : Type} {t : Option (α × List UInt8)} {b b' : Bool} {v : α} {l' : List UInt8} (h : Took t b v l' b') (hb : b = true) : b' = true := by
  rcases h with h | h
  · exact h.1
  · rw [hb] at h
    cases h.2.1
theorem took_some {α : Type} {t : Option (α × List UInt8)} {v : α} {l' : List UInt8} (b : Bool) (h : t = some (v, l')) : Took t b v l' b := by
  cases b
  · exact .inr ⟨rfl, rfl, h⟩
  · exact .inl ⟨rfl, .inl rfl⟩
theorem took_none {α : Type} {t : Option (α × List UInt8)} (b : Bool) (v : α) (l' : List UInt8) (h : t = none) : Took t b v l' true := .inl ⟨rfl, .inr h⟩

/-- One thing behind another. -/
def seqT {α β γ : Type} (t : Option (α × List UInt8)) (s : List UInt8 → Option (β × List UInt8)) (f : α → β → γ) : Option (γ × List UInt8) :=
  match t with | none => none | some (v, l1) => match s l1 with | none => none | some (u, l2) => some (f v u, l2)
theorem seqT_some {α β γ : Type} {v : α} {l1 : List UInt8} {s : List UInt8 → Option (β × List UInt8)} {f : α → β → γ} : seqT (some (v, l1)) s f = match s l1 with | none => none | some (u, l2) => some (f v u, l2) := rfl
theorem Took.then {α β γ : Type} {t : Option (α × List UInt8)} {b b1 b2 : Bool} {v : α} {u : β} {l1 l2 : List UInt8} {s : List UInt8 → Option (β × List UInt8)} (h1 : Took t b v l1 b1) (h2 : Took (s l1) b1 u l2 b2)
    {r : Option (γ × List UInt8)} {f : α → β → γ} (hr : r = seqT t s f) : Took r b (f v u) l2 b2 := by
  subst hr
  rcases h2 with ⟨e2, h2⟩ | ⟨e2, e1, h2⟩
  · refine .inl ⟨e2, ?_⟩
    rcases h1 with ⟨e1, h1⟩ | ⟨e1, e0, h1⟩
    · rcases h1 with h1 | h1
      · exact .inl h1
      · exact .inr (by rw [h1]; rfl)
    · rcases h2 with h2 | h2
      · rw [e1] at h2
        cases h2
      · exact .inr (by rw [h1, seqT_some, h2])
  · obtain ⟨e0, h1⟩ := h1.good e1
    exact .inr ⟨e2, e0, by rw [h1, seqT_some, h2]⟩
/-- What is left does not matter. -/
def lastT {α : Type} (t : Option (α × List UInt8)) : Option (α × List UInt8) := match t with | none => none | some (v, _) => some (v, [])
theorem Took.last {α : Type} {t : Option (α × List UInt8)} {b b' : Bool} {v : α} {l' : List UInt8} (h : Took t b v l' b') : Took (lastT t) b v [] b' := by
  rcases h with ⟨e, h⟩ | ⟨e, e0, h⟩
  · refine .inl ⟨e, ?_⟩
    rcases h with h | h
    · exact .inl h
    · exact .inr (by rw [h]; rfl)
  · exact .inr ⟨e, e0, by rw [h]; rfl⟩

def dirT (r1 : List UInt8) : Option ((List UInt8 × List UInt8) × List UInt8) := seqT (takeB 1 r1) (takeB 32) fun d i => (d, i)
theorem takeEnt_eq (r : List UInt8) : takeEnt r = seqT (takeT r) dirT fun nm u => (⟨⟨nm.toArray⟩, decide (u.1 = [1]), ⟨u.2.toArray⟩⟩ : Ent) := by
  unfold takeEnt seqT dirT seqT
  cases takeT r with
  | none => rfl
  | some p =>
    obtain ⟨nm, r1⟩ := p
    simp only
    cases takeB 1 r1 with
    | none => rfl
    | some p =>
      obtain ⟨d, r2⟩ := p
      simp only
      cases takeB 32 r2 with
      | none => rfl
      | some p => rfl
/-- An entry. -/
theorem took_ent {l l1 l2 l3 : List UInt8} {b b1 b2 b3 : Bool} {nm d i : List UInt8} (h1 : Took (takeT l) b nm l1 b1) (h2 : Took (takeB 1 l1) b1 d l2 b2) (h3 : Took (takeB 32 l2) b2 i l3 b3) : Took (takeEnt l) b (⟨⟨nm.toArray⟩, decide (d = [1]), ⟨i.toArray⟩⟩ : Ent) l3 b3 :=
  h1.then (s := dirT) (u := (d, i)) (f := fun nm u => (⟨⟨nm.toArray⟩, decide (u.1 = [1]), ⟨u.2.toArray⟩⟩ : Ent)) (h2.then (s := takeB 32) h3 (f := fun d i => (d, i)) rfl) (takeEnt_eq l)

def toldT (r : List UInt8) : Option ((ByteArray × Int × ByteArray) × List UInt8) := match takeTold r with | none => none | some v => some (v, [])
def saidT (r1 : List UInt8) : Option ((Nat × List UInt8) × List UInt8) := seqT (takeNum r1) (fun r2 => lastT (takeT r2)) fun n t => (n, t)
theorem takeTold_eq (r : List UInt8) : toldT r = seqT (takeT r) saidT fun who u => ((⟨who.toArray⟩, (u.1 : Int), ⟨u.2.toArray⟩) : ByteArray × Int × ByteArray) := by
  unfold toldT takeTold seqT saidT seqT lastT
  cases takeT r with
  | none => rfl
  | some p =>
    obtain ⟨nm, r1⟩ := p
    simp only
    cases takeNum r1 with
    | none => rfl
    | some p =>
      obtain ⟨d, r2⟩ := p
      simp only
      cases takeT r2 with
      | none => rfl
      | some p => rfl
/-- Who said what, and when. -/
theorem took_told {l l1 l2 l3 : List UInt8} {b b1 b2 b3 : Bool} {who text : List UInt8} {n : Nat} (h1 : Took (takeT l) b who l1 b1) (h2 : Took (takeNum l1) b1 n l2 b2) (h3 : Took (takeT l2) b2 text l3 b3) : Took (toldT l) b ((⟨who.toArray⟩, (n : Int), ⟨text.toArray⟩) : ByteArray × Int × ByteArray) [] b3 :=
  h1.then (s := saidT) (u := (n, text)) (f := fun who u => ((⟨who.toArray⟩, (u.1 : Int), ⟨u.2.toArray⟩) : ByteArray × Int × ByteArray)) (h2.then (s := fun r2 => lastT (takeT r2)) h3.last (f := fun n t => (n, t)) rfl) (takeTold_eq l)

/-- Many of them, one behind the other: what was taken so far, and how many are wanted still. -/
def takeMany {α : Type} (f : List UInt8 → Option (α × List UInt8)) : Nat → List UInt8 → Option (List α × List UInt8)
  | 0, r => some ([], r)
  | n + 1, r => match f r with
    | none => none
    | some (e, r1) => match takeMany f n r1 with
      | none => none
      | some (l, r2) => some (e :: l, r2)
theorem takeEnts_many : ∀ (n : Nat) (r : List UInt8), takeEnts n r = takeMany takeEnt n r
  | 0, _ => rfl
  | n + 1, r => by
    unfold takeEnts takeMany
    cases takeEnt r with
    | none => rfl
    | some p =>
      obtain ⟨e, r1⟩ := p
      simp only
      rw [takeEnts_many n r1]
      cases takeMany takeEnt n r1 with
      | none => rfl
      | some p => rfl
def takePar (r : List UInt8) : Option (ByteArray × List UInt8) := match takeB 32 r with | none => none | some (p, r1) => some (⟨p.toArray⟩, r1)
theorem takePars_many : ∀ (n : Nat) (r : List UInt8), takePars n r = takeMany takePar n r
  | 0, _ => rfl
  | n + 1, r => by
    have hp : takePar r = match takeB 32 r with | none => none | some (p, r1) => some (⟨p.toArray⟩, r1) := rfl
    unfold takePars takeMany
    rw [hp]
    cases takeB 32 r with
    | none => rfl
    | some p =>
      obtain ⟨e, r1⟩ := p
      simp only
      rw [takePars_many n r1]
      cases takeMany takePar n r1 with
      | none => rfl
      | some p => rfl
/-- The rounds so far: acc were taken, n are wanted still, from r on. -/
def Sofar {α : Type} (f : List UInt8 → Option (α × List UInt8)) (N : Nat) (l0 : List UInt8) (b0 : Bool) (acc : List α) (n : Nat) (r : List UInt8) (b : Bool) : Prop :=
  (b = true ∧ (b0 = true ∨ takeMany f N l0 = none)) ∨ (b = false ∧ b0 = false ∧ takeMany f N l0 = match takeMany f n r with | none => none | some (l, q) => some (acc ++ l, q))
theorem Sofar.start {α : Type} (f : List UInt8 → Option (α × List UInt8)) (N : Nat) (l0 : List UInt8) (b : Bool) : Sofar f N l0 b [] N l0 b := by
  cases b
  · refine .inr ⟨rfl, rfl, ?_⟩
    split <;> simp_all
  · exact .inl ⟨rfl, .inl rfl⟩
theorem Sofar.step {α : Type} {f : List UInt8 → Option (α × List UInt8)} {N n : Nat} {l0 r r' : List UInt8} {b0 b b' : Bool} {acc : List α} {v : α} (h : Sofar f N l0 b0 acc (n + 1) r b) (ht : Took (f r) b v r' b') : Sofar f N l0 b0 (acc ++ [v]) n r' b' := by
  rcases h with ⟨e, h⟩ | ⟨e, e0, h⟩
  · exact .inl ⟨ht.stay e, h⟩
  · rcases ht with ⟨e1, h1⟩ | ⟨e1, _, h1⟩
    · refine .inl ⟨e1, .inr ?_⟩
      rcases h1 with h1 | h1
      · rw [e] at h1
        cases h1
      · rw [h]
        unfold takeMany
        simp only [h1]
    · refine .inr ⟨e1, e0, ?_⟩
      rw [h]
      conv => lhs; unfold takeMany
      simp only [h1]
      cases takeMany f n r' with
      | none => rfl
      | some p => simp [List.append_assoc]
theorem Sofar.done {α : Type} {f : List UInt8 → Option (α × List UInt8)} {N n : Nat} {l0 r : List UInt8} {b0 b : Bool} {acc : List α} (h : Sofar f N l0 b0 acc n r b) (hn : n = 0 ∨ b = true) : Took (takeMany f N l0) b0 acc r b := by
  rcases h with ⟨e, h⟩ | ⟨e, e0, h⟩
  · exact .inl ⟨e, h⟩
  · rcases hn with hn | hn
    · subst hn
      refine .inr ⟨e, e0, ?_⟩
      rw [h]
      simp [takeMany]
    · rw [e] at hn
      cases hn

theorem takeNum_fewer {p : List UInt8} {t : Nat} {rest : List UInt8} (h : takeNum p = some (t, rest)) : rest.length < p.length := by
  obtain ⟨rfl, _⟩ := num_takeNum h
  have := num_pos t
  rw [List.length_append]
  omega
/-- What is taken is no longer. -/
theorem takeB_less {n : Nat} {l a r : List UInt8} (h : takeB n l = some (a, r)) : a.length = n ∧ r.length + n = l.length := by
  unfold takeB at h
  split at h
  · cases h
  · injection h with h
    injection h with h1 h2
    subst h1
    subst h2
    simp only [List.length_take, List.length_drop]
    omega
end Go.Dol
