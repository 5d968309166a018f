/- What a reader takes, and what bytes would be. In plain Lean; no program is in sight. Conditions: none. -/
import Derived.Test.YtcefbhmmijmefaaObjRd
namespace Go.Dol
set_option linter.unusedVariables false

/-- As many as a number says. -/
def manyT {α : Type} (f : List UInt8 → Option (α × List UInt8)) (l : List UInt8) : Option (List α × List UInt8) := match takeNum l with | none => none | some (n, l1) => takeMany f n l1
theorem took_many {α : Type} {f : List UInt8 → Option (α × List UInt8)} {l l1 l2 : List UInt8} {b b1 b2 : Bool} {n : Nat} {v : List α} (h1 : Took (takeNum l) b n l1 b1) (h2 : Took (takeMany f n l1) b1 v l2 b2) : Took (manyT f l) b v l2 b2 := by
  rcases h2 with ⟨e2, h2⟩ | ⟨e2, e1, h2⟩
  · refine .inl ⟨e2, ?_⟩
    rcases h1 with ⟨e1, h1⟩ | ⟨e1, e0, h1⟩
    · rcases h1 with h1 | h1
      · exact .inl h1
      · exact .inr (by unfold manyT; rw [h1])
    · rcases h2 with h2 | h2
      · rw [e1] at h2
        cases h2
      · exact .inr (by unfold manyT; rw [h1]; exact h2)
  · obtain ⟨e0, h1⟩ := h1.good e1
    exact .inr ⟨e2, e0, by unfold manyT; rw [h1]; exact h2⟩

/-- What was read is what bytes would be; or there is nothing that they would be. -/
def Parsed (p : Option Obj) (o : Obj) (b : Bool) : Prop := (b = true ∧ p = none) ∨ (b = false ∧ p = some o)
def endO {α : Type} (t : Option (α × List UInt8)) (f : α → Obj) : Option Obj := match t with | none => none | some (v, _) => some (f v)
theorem parsed_of {α : Type} {t : Option (α × List UInt8)} {p : Option Obj} {f : α → Obj} {v : α} {l' : List UInt8} {b : Bool} (h : Took t false v l' b) (hp : p = endO t f) : Parsed p (f v) b := by
  subst hp
  rcases h with ⟨e, h⟩ | ⟨e, _, h⟩
  · refine .inl ⟨e, ?_⟩
    rcases h with h | h
    · cases h
    · rw [h]; rfl
  · exact .inr ⟨e, by rw [h]; rfl⟩
theorem parsed_tree {l l' : List UInt8} {en : List Ent} {b : Bool} (h : Took (manyT takeEnt l) false en l' b) : Parsed (parseTree l) { Obj.zero with kind := 2, ents := en } b :=
  parsed_of (f := fun en => { Obj.zero with kind := 2, ents := en }) h (by
    unfold parseTree endO manyT
    cases takeNum l with
    | none => rfl
    | some p =>
      obtain ⟨n, r1⟩ := p
      simp only
      rw [takeEnts_many]
      cases takeMany takeEnt n r1 with
      | none => rfl
      | some p => rfl)
def comT (r1 : List UInt8) : Option ((List ByteArray × (ByteArray × Int × ByteArray)) × List UInt8) := seqT (manyT takePar r1) toldT fun l v => (l, v)
theorem parsed_commit {l l1 l2 l3 : List UInt8} {t : List UInt8} {pa : List ByteArray} {v : ByteArray × Int × ByteArray} {b1 b2 b3 : Bool} (h1 : Took (takeB 32 l) false t l1 b1) (h2 : Took (manyT takePar l1) b1 pa l2 b2) (h3 : Took (toldT l2) b2 v l3 b3) :
    Parsed (parseCommit l) { Obj.zero with kind := 3, tree := ⟨t.toArray⟩, pars := pa, who := v.1, stamp := v.2.1, text := v.2.2 } b3 :=
  parsed_of (f := fun x : List UInt8 × (List ByteArray × (ByteArray × Int × ByteArray)) => { Obj.zero with kind := 3, tree := ⟨x.1.toArray⟩, pars := x.2.1, who := x.2.2.1, stamp := x.2.2.2.1, text := x.2.2.2.2 })
    (h1.then (s := comT) (u := (pa, v)) (f := fun t u => (t, u)) (h2.then (s := toldT) h3 (f := fun l v => (l, v)) rfl) rfl) (by
      unfold parseCommit endO seqT comT seqT manyT toldT
      cases takeB 32 l with
      | none => rfl
      | some p =>
        obtain ⟨t, r1⟩ := p
        simp only
        cases takeNum r1 with
        | none => rfl
        | some p =>
          obtain ⟨n, r2⟩ := p
          simp only
          rw [takePars_many]
          cases takeMany takePar n r2 with
          | none => rfl
          | some p =>
            obtain ⟨l, r3⟩ := p
            simp only
            cases takeTold r3 with
            | none => rfl
            | some p => rfl)
def tagT (r1 : List UInt8) : Option ((List UInt8 × (ByteArray × Int × ByteArray)) × List UInt8) := seqT (takeT r1) toldT fun l v => (l, v)
theorem parsed_tag {l l1 l2 l3 : List UInt8} {t nm : List UInt8} {v : ByteArray × Int × ByteArray} {b1 b2 b3 : Bool} (h1 : Took (takeB 32 l) false t l1 b1) (h2 : Took (takeT l1) b1 nm l2 b2) (h3 : Took (toldT l2) b2 v l3 b3) :
    Parsed (parseTag l) { Obj.zero with kind := 4, target := ⟨t.toArray⟩, name := ⟨nm.toArray⟩, who := v.1, stamp := v.2.1, text := v.2.2 } b3 :=
  parsed_of (f := fun x : List UInt8 × (List UInt8 × (ByteArray × Int × ByteArray)) => { Obj.zero with kind := 4, target := ⟨x.1.toArray⟩, name := ⟨x.2.1.toArray⟩, who := x.2.2.1, stamp := x.2.2.2.1, text := x.2.2.2.2 })
    (h1.then (s := tagT) (u := (nm, v)) (f := fun t u => (t, u)) (h2.then (s := toldT) h3 (f := fun l v => (l, v)) rfl) rfl) (by
      unfold parseTag endO seqT tagT seqT toldT
      cases takeB 32 l with
      | none => rfl
      | some p =>
        obtain ⟨t, r1⟩ := p
        simp only
        cases takeT r1 with
        | none => rfl
        | some p =>
          obtain ⟨nm, r2⟩ := p
          simp only
          cases takeTold r2 with
          | none => rfl
          | some p => rfl)
/-- Which object bytes are, by what was read. -/
theorem dec_of {ge : ByteArray → ByteArray → Bool} {k : UInt8} {l : List UInt8} {o : Obj} {b : Bool} (h : Parsed (parseK k l) o b) : decO ge (k :: l) = if b = false ∧ checkB ge o = true ∧ encO o = k :: l then some o else none := by
  have hp : parseO (k :: l) = parseK k l := rfl
  unfold decO
  rw [hp]
  rcases h with ⟨e, h⟩ | ⟨e, h⟩
  · rw [h, e]
    simp
  · rw [h, e]
    simp
end Go.Dol
