/- What a reader of an object's bytes takes, in plain Lean: what was taken, or that something was wrong. No program is in sight. Conditions: none. What a reader takes, and what bytes would be. In plain Lean; no program is in sight. Conditions: none. The walks of the layer 'object', its fourteenth part: what its reader takes. Conditions: lengths below 2^47. The walks of the layer 'object', its fifteenth part: what its reader does many times. Conditions: lengths below 2^47. The walks of the layer 'object', its sixteenth part: the body of a kind. Conditions: lengths below 2^47. The walks of the layer 'object', its seventeenth part: Decode. Conditions: bytes of at most 2^47 - 4096. -/
import Derived.Test.YtecpbcmpncgokaaGreatObjA
import Derived.Test.YtecpbcmpncgokaaGreatObjBB
import Derived.Test.YtecpbcmpncgokaaGreatCodeA
import Derived.Test.YtecpbcmpncgokaaGreatWordsA
namespace Go.Dol
set_option linter.unusedVariables false

/-- From where something was wrong or not (b), t says what there is to take: it was taken (v, l'), or something is wrong now. -/
def Took {α : Type} (t : Option (α × List UInt8)) (b : Bool) (v : α) (l' : List UInt8) (b' : Bool) : Prop := (b' = true ∧ (b = true ∨ t = none)) ∨ (b' = false ∧ b = false ∧ t = some (v, l'))
theorem Took.good {α : Type} {t : Option (α × List UInt8)} {b b' : Bool} {v : α} {l' : List UInt8} (h : Took t b v l' b') (hb : b' = false) : b = false ∧ t = some (v, l') := by
  rcases h with h | h
  · rw [hb] at h
    cases h.1
  · exact h.2
theorem Took.stay {α : Type} {t : Option (α × List UInt8)} {b b' : Bool} {v : α} {l' : List UInt8} (h : Took t b v l' b') (hb : b = true) : b' = true := by
  rcases h with h | h
  · exact h.1
  · rw [hb] at h
    cases h.2.1
theorem took_some {α : Type} {t : Option (α × List UInt8)} {v : α} {l' : List UInt8} (b : Bool) (h : t = some (v, l')) : Took t b v l' b := by
  cases b
  · exact .inr ⟨rfl, rfl, h⟩
  · exact .inl ⟨rfl, .inl rfl⟩
theorem took_none {α : Type} {t : Option (α × List UInt8)} (b : Bool) (v : α) (l' : List UInt8) (h : t = none) : Took t b v l' true := .inl ⟨rfl, .inr h⟩

/-- One thing behind another. -/
def seqT {α β γ : Type} (t : Option (α × List UInt8)) (s : List UInt8 → Option (β × List UInt8)) (f : α → β → γ) : Option (γ × List UInt8) :=
  match t with | none => none | some (v, l1) => match s l1 with | none => none | some (u, l2) => some (f v u, l2)
theorem seqT_some {α β γ : Type} {v : α} {l1 : List UInt8} {s : List UInt8 → Option (β × List UInt8)} {f : α → β → γ} : seqT (some (v, l1)) s f = match s l1 with | none => none | some (u, l2) => some (f v u, l2) := rfl
theorem Took.then {α β γ : Type} {t : Option (α × List UInt8)} {b b1 b2 : Bool} {v : α} {u : β} {l1 l2 : List UInt8} {s : List UInt8 → Option (β × List UInt8)} (h1 : Took t b v l1 b1) (h2 : Took (s l1) b1 u l2 b2)
    {r : Option (γ × List UInt8)} {f : α → β → γ} (hr : r = seqT t s f) : Took r b (f v u) l2 b2 := by
  subst hr
  rcases h2 with ⟨e2, h2⟩ | ⟨e2, e1, h2⟩
  · refine .inl ⟨e2, ?_⟩
    rcases h1 with ⟨e1, h1⟩ | ⟨e1, e0, h1⟩
    · rcases h1 with h1 | h1
      · exact .inl h1
      · exact .inr (by rw [h1]; rfl)
    · rcases h2 with h2 | h2
      · rw [e1] at h2
        cases h2
      · exact .inr (by rw [h1, seqT_some, h2])
  · obtain ⟨e0, h1⟩ := h1.good e1
    exact .inr ⟨e2, e0, by rw [h1, seqT_some, h2]⟩
/-- What is left does not matter. -/
def lastT {α : Type} (t : Option (α × List UInt8)) : Option (α × List UInt8) := match t with | none => none | some (v, _) => some (v, [])
theorem Took.last {α : Type} {t : Option (α × List UInt8)} {b b' : Bool} {v : α} {l' : List UInt8} (h : Took t b v l' b') : Took (lastT t) b v [] b' := by
  rcases h with ⟨e, h⟩ | ⟨e, e0, h⟩
  · refine .inl ⟨e, ?_⟩
    rcases h with h | h
    · exact .inl h
    · exact .inr (by rw [h]; rfl)
  · exact .inr ⟨e, e0, by rw [h]; rfl⟩

def dirT (r1 : List UInt8) : Option ((List UInt8 × List UInt8) × List UInt8) := seqT (takeB 1 r1) (takeB 32) fun d i => (d, i)
theorem takeEnt_eq (r : List UInt8) : takeEnt r = seqT (takeT r) dirT fun nm u => (⟨⟨nm.toArray⟩, decide (u.1 = [1]), ⟨u.2.toArray⟩⟩ : Ent) := by
  unfold takeEnt seqT dirT seqT
  cases takeT r with
  | none => rfl
  | some p =>
    obtain ⟨nm, r1⟩ := p
    simp only
    cases takeB 1 r1 with
    | none => rfl
    | some p =>
      obtain ⟨d, r2⟩ := p
      simp only
      cases takeB 32 r2 with
      | none => rfl
      | some p => rfl
/-- An entry. -/
theorem took_ent {l l1 l2 l3 : List UInt8} {b b1 b2 b3 : Bool} {nm d i : List UInt8} (h1 : Took (takeT l) b nm l1 b1) (h2 : Took (takeB 1 l1) b1 d l2 b2) (h3 : Took (takeB 32 l2) b2 i l3 b3) : Took (takeEnt l) b (⟨⟨nm.toArray⟩, decide (d = [1]), ⟨i.toArray⟩⟩ : Ent) l3 b3 :=
  h1.then (s := dirT) (u := (d, i)) (f := fun nm u => (⟨⟨nm.toArray⟩, decide (u.1 = [1]), ⟨u.2.toArray⟩⟩ : Ent)) (h2.then (s := takeB 32) h3 (f := fun d i => (d, i)) rfl) (takeEnt_eq l)

def toldT (r : List UInt8) : Option ((ByteArray × Int × ByteArray) × List UInt8) := match takeTold r with | none => none | some v => some (v, [])
def saidT (r1 : List UInt8) : Option ((Nat × List UInt8) × List UInt8) := seqT (takeNum r1) (fun r2 => lastT (takeT r2)) fun n t => (n, t)
theorem takeTold_eq (r : List UInt8) : toldT r = seqT (takeT r) saidT fun who u => ((⟨who.toArray⟩, (u.1 : Int), ⟨u.2.toArray⟩) : ByteArray × Int × ByteArray) := by
  unfold toldT takeTold seqT saidT seqT lastT
  cases takeT r with
  | none => rfl
  | some p =>
    obtain ⟨nm, r1⟩ := p
    simp only
    cases takeNum r1 with
    | none => rfl
    | some p =>
      obtain ⟨d, r2⟩ := p
      simp only
      cases takeT r2 with
      | none => rfl
      | some p => rfl
/-- Who said what, and when. -/
theorem took_told {l l1 l2 l3 : List UInt8} {b b1 b2 b3 : Bool} {who text : List UInt8} {n : Nat} (h1 : Took (takeT l) b who l1 b1) (h2 : Took (takeNum l1) b1 n l2 b2) (h3 : Took (takeT l2) b2 text l3 b3) : Took (toldT l) b ((⟨who.toArray⟩, (n : Int), ⟨text.toArray⟩) : ByteArray × Int × ByteArray) [] b3 :=
  h1.then (s := saidT) (u := (n, text)) (f := fun who u => ((⟨who.toArray⟩, (u.1 : Int), ⟨u.2.toArray⟩) : ByteArray × Int × ByteArray)) (h2.then (s := fun r2 => lastT (takeT r2)) h3.last (f := fun n t => (n, t)) rfl) (takeTold_eq l)

/-- Many of them, one behind the other: what was taken so far, and how many are wanted still. -/
def takeMany {α : Type} (f : List UInt8 → Option (α × List UInt8)) : Nat → List UInt8 → Option (List α × List UInt8)
  | 0, r => some ([], r)
  | n + 1, r => match f r with
    | none => none
    | some (e, r1) => match takeMany f n r1 with
      | none => none
      | some (l, r2) => some (e :: l, r2)
theorem takeEnts_many : ∀ (n : Nat) (r : List UInt8), takeEnts n r = takeMany takeEnt n r
  | 0, _ => rfl
  | n + 1, r => by
    unfold takeEnts takeMany
    cases takeEnt r with
    | none => rfl
    | some p =>
      obtain ⟨e, r1⟩ := p
      simp only
      rw [takeEnts_many n r1]
      cases takeMany takeEnt n r1 with
      | none => rfl
      | some p => rfl
def takePar (r : List UInt8) : Option (ByteArray × List UInt8) := match takeB 32 r with | none => none | some (p, r1) => some (⟨p.toArray⟩, r1)
theorem takePars_many : ∀ (n : Nat) (r : List UInt8), takePars n r = takeMany takePar n r
  | 0, _ => rfl
  | n + 1, r => by
    have hp : takePar r = match takeB 32 r with | none => none | some (p, r1) => some (⟨p.toArray⟩, r1) := rfl
    unfold takePars takeMany
    rw [hp]
    cases takeB 32 r with
    | none => rfl
    | some p =>
      obtain ⟨e, r1⟩ := p
      simp only
      rw [takePars_many n r1]
      cases takeMany takePar n r1 with
      | none => rfl
      | some p => rfl
/-- The rounds so far: acc were taken, n are wanted still, from r on. -/
def Sofar {α : Type} (f : List UInt8 → Option (α × List UInt8)) (N : Nat) (l0 : List UInt8) (b0 : Bool) (acc : List α) (n : Nat) (r : List UInt8) (b : Bool) : Prop :=
  (b = true ∧ (b0 = true ∨ takeMany f N l0 = none)) ∨ (b = false ∧ b0 = false ∧ takeMany f N l0 = match takeMany f n r with | none => none | some (l, q) => some (acc ++ l, q))
theorem Sofar.start {α : Type} (f : List UInt8 → Option (α × List UInt8)) (N : Nat) (l0 : List UInt8) (b : Bool) : Sofar f N l0 b [] N l0 b := by
  cases b
  · refine .inr ⟨rfl, rfl, ?_⟩
    split <;> simp_all
  · exact .inl ⟨rfl, .inl rfl⟩
theorem Sofar.step {α : Type} {f : List UInt8 → Option (α × List UInt8)} {N n : Nat} {l0 r r' : List UInt8} {b0 b b' : Bool} {acc : List α} {v : α} (h : Sofar f N l0 b0 acc (n + 1) r b) (ht : Took (f r) b v r' b') : Sofar f N l0 b0 (acc ++ [v]) n r' b' := by
  rcases h with ⟨e, h⟩ | ⟨e, e0, h⟩
  · exact .inl ⟨ht.stay e, h⟩
  · rcases ht with ⟨e1, h1⟩ | ⟨e1, _, h1⟩
    · refine .inl ⟨e1, .inr ?_⟩
      rcases h1 with h1 | h1
      · rw [e] at h1
        cases h1
      · rw [h]
        unfold takeMany
        simp only [h1]
    · refine .inr ⟨e1, e0, ?_⟩
      rw [h]
      conv => lhs; unfold takeMany
      simp only [h1]
      cases takeMany f n r' with
      | none => rfl
      | some p => simp [List.append_assoc]
theorem Sofar.done {α : Type} {f : List UInt8 → Option (α × List UInt8)} {N n : Nat} {l0 r : List UInt8} {b0 b : Bool} {acc : List α} (h : Sofar f N l0 b0 acc n r b) (hn : n = 0 ∨ b = true) : Took (takeMany f N l0) b0 acc r b := by
  rcases h with ⟨e, h⟩ | ⟨e, e0, h⟩
  · exact .inl ⟨e, h⟩
  · rcases hn with hn | hn
    · subst hn
      refine .inr ⟨e, e0, ?_⟩
      rw [h]
      simp [takeMany]
    · rw [e] at hn
      cases hn

theorem takeNum_fewer {p : List UInt8} {t : Nat} {rest : List UInt8} (h : takeNum p = some (t, rest)) : rest.length < p.length := by
  obtain ⟨rfl, _⟩ := num_takeNum h
  have := num_pos t
  rw [List.length_append]
  omega
/-- What is taken is no longer. -/
theorem takeB_less {n : Nat} {l a r : List UInt8} (h : takeB n l = some (a, r)) : a.length = n ∧ r.length + n = l.length := by
  unfold takeB at h
  split at h
  · cases h
  · injection h with h
    injection h with h1 h2
    subst h1
    subst h2
    simp only [List.length_take, List.length_drop]
    omega
end Go.Dol

namespace Go.Dol
set_option linter.unusedVariables false

/-- As many as a number says. -/
def manyT {α : Type} (f : List UInt8 → Option (α × List UInt8)) (l : List UInt8) : Option (List α × List UInt8) := match takeNum l with | none => none | some (n, l1) => takeMany f n l1
theorem took_many {α : Type} {f : List UInt8 → Option (α × List UInt8)} {l l1 l2 : List UInt8} {b b1 b2 : Bool} {n : Nat} {v : List α} (h1 : Took (takeNum l) b n l1 b1) (h2 : Took (takeMany f n l1) b1 v l2 b2) : Took (manyT f l) b v l2 b2 := by
  rcases h2 with ⟨e2, h2⟩ | ⟨e2, e1, h2⟩
  · refine .inl ⟨e2, ?_⟩
    rcases h1 with ⟨e1, h1⟩ | ⟨e1, e0, h1⟩
    · rcases h1 with h1 | h1
      · exact .inl h1
      · exact .inr (by unfold manyT; rw [h1])
    · rcases h2 with h2 | h2
      · rw [e1] at h2
        cases h2
      · exact .inr (by unfold manyT; rw [h1]; exact h2)
  · obtain ⟨e0, h1⟩ := h1.good e1
    exact .inr ⟨e2, e0, by unfold manyT; rw [h1]; exact h2⟩

/-- What was read is what bytes would be; or there is nothing that they would be. -/
def Parsed (p : Option Obj) (o : Obj) (b : Bool) : Prop := (b = true ∧ p = none) ∨ (b = false ∧ p = some o)
def endO {α : Type} (t : Option (α × List UInt8)) (f : α → Obj) : Option Obj := match t with | none => none | some (v, _) => some (f v)
theorem parsed_of {α : Type} {t : Option (α × List UInt8)} {p : Option Obj} {f : α → Obj} {v : α} {l' : List UInt8} {b : Bool} (h : Took t false v l' b) (hp : p = endO t f) : Parsed p (f v) b := by
  subst hp
  rcases h with ⟨e, h⟩ | ⟨e, _, h⟩
  · refine .inl ⟨e, ?_⟩
    rcases h with h | h
    · cases h
    · rw [h]; rfl
  · exact .inr ⟨e, by rw [h]; rfl⟩
theorem parsed_tree {l l' : List UInt8} {en : List Ent} {b : Bool} (h : Took (manyT takeEnt l) false en l' b) : Parsed (parseTree l) { Obj.zero with kind := 2, ents := en } b :=
  parsed_of (f := fun en => { Obj.zero with kind := 2, ents := en }) h (by
    unfold parseTree endO manyT
    cases takeNum l with
    | none => rfl
    | some p =>
      obtain ⟨n, r1⟩ := p
      simp only
      rw [takeEnts_many]
      cases takeMany takeEnt n r1 with
      | none => rfl
      | some p => rfl)
def comT (r1 : List UInt8) : Option ((List ByteArray × (ByteArray × Int × ByteArray)) × List UInt8) := seqT (manyT takePar r1) toldT fun l v => (l, v)
theorem parsed_commit {l l1 l2 l3 : List UInt8} {t : List UInt8} {pa : List ByteArray} {v : ByteArray × Int × ByteArray} {b1 b2 b3 : Bool} (h1 : Took (takeB 32 l) false t l1 b1) (h2 : Took (manyT takePar l1) b1 pa l2 b2) (h3 : Took (toldT l2) b2 v l3 b3) :
    Parsed (parseCommit l) { Obj.zero with kind := 3, tree := ⟨t.toArray⟩, pars := pa, who := v.1, stamp := v.2.1, text := v.2.2 } b3 :=
  parsed_of (f := fun x : List UInt8 × (List ByteArray × (ByteArray × Int × ByteArray)) => { Obj.zero with kind := 3, tree := ⟨x.1.toArray⟩, pars := x.2.1, who := x.2.2.1, stamp := x.2.2.2.1, text := x.2.2.2.2 })
    (h1.then (s := comT) (u := (pa, v)) (f := fun t u => (t, u)) (h2.then (s := toldT) h3 (f := fun l v => (l, v)) rfl) rfl) (by
      unfold parseCommit endO seqT comT seqT manyT toldT
      cases takeB 32 l with
      | none => rfl
      | some p =>
        obtain ⟨t, r1⟩ := p
        simp only
        cases takeNum r1 with
        | none => rfl
        | some p =>
          obtain ⟨n, r2⟩ := p
          simp only
          rw [takePars_many]
          cases takeMany takePar n r2 with
          | none => rfl
          | some p =>
            obtain ⟨l, r3⟩ := p
            simp only
            cases takeTold r3 with
            | none => rfl
            | some p => rfl)
def tagT (r1 : List UInt8) : Option ((List UInt8 × (ByteArray × Int × ByteArray)) × List UInt8) := seqT (takeT r1) toldT fun l v => (l, v)
theorem parsed_tag {l l1 l2 l3 : List UInt8} {t nm : List UInt8} {v : ByteArray × Int × ByteArray} {b1 b2 b3 : Bool} (h1 : Took (takeB 32 l) false t l1 b1) (h2 : Took (takeT l1) b1 nm l2 b2) (h3 : Took (toldT l2) b2 v l3 b3) :
    Parsed (parseTag l) { Obj.zero with kind := 4, target := ⟨t.toArray⟩, name := ⟨nm.toArray⟩, who := v.1, stamp := v.2.1, text := v.2.2 } b3 :=
  parsed_of (f := fun x : List UInt8 × (List UInt8 × (ByteArray × Int × ByteArray)) => { Obj.zero with kind := 4, target := ⟨x.1.toArray⟩, name := ⟨x.2.1.toArray⟩, who := x.2.2.1, stamp := x.2.2.2.1, text := x.2.2.2.2 })
    (h1.then (s := tagT) (u := (nm, v)) (f := fun t u => (t, u)) (h2.then (s := toldT) h3 (f := fun l v => (l, v)) rfl) rfl) (by
      unfold parseTag endO seqT tagT seqT toldT
      cases takeB 32 l with
      | none => rfl
      | some p =>
        obtain ⟨t, r1⟩ := p
        simp only
        cases takeT r1 with
        | none => rfl
        | some p =>
          obtain ⟨nm, r2⟩ := p
          simp only
          cases takeTold r2 with
          | none => rfl
          | some p => rfl)
/-- Which object bytes are, by what was read. -/
theorem dec_of {ge : ByteArray → ByteArray → Bool} {k : UInt8} {l : List UInt8} {o : Obj} {b : Bool} (h : Parsed (parseK k l) o b) : decO ge (k :: l) = if b = false ∧ checkB ge o = true ∧ encO o = k :: l then some o else none := by
  have hp : parseO (k :: l) = parseK k l := rfl
  unfold decO
  rw [hp]
  rcases h with ⟨e, h⟩ | ⟨e, h⟩
  · rw [h, e]
    simp
  · rw [h, e]
    simp
end Go.Dol

namespace Go.Proofs.YtecpbcmpncgokaaGreat
open Go.RowKit Go.Dol
set_option linter.unusedVariables false

def errB (b : Bool) : Int := if b then 2 else 0
/-- A reader: what is left, and whether something was wrong. -/
def Rs (w : World) (B g : Nat) (l : List UInt8) (b : Bool) : Prop :=
  ∃ (A : Option Addr) (c : Nat), Blk w g 224 [.slice A l.length c, .int .i64 (errB b)] ∧ Far w B A l ∧ l.length ≤ c ∧ c ≤ maxLen ∧ l.length ≤ 140737488355328 ∧ B ≤ g
theorem Rs.lt {w : World} {B g : Nat} {l : List UInt8} {b : Bool} (h : Rs w B g l b) : g < w.heap.size ∧ B ≤ g := by
  obtain ⟨A, c, hB, _, _, _, _, h1⟩ := h
  exact ⟨hB.lt, h1⟩
theorem Rs.keep {w w' : World} {B g : Nat} {l : List UInt8} {b : Bool} (h : Rs w B g l b) {row : Option Nat} (hg : w.grownBy w' row) (hne : some g ≠ row) (hr : Other w B row) : Rs w' B g l b := by
  obtain ⟨A, c, hB, hF, h1⟩ := h
  exact ⟨A, c, hB.grown hg hne, hF.keep hg hr, h1⟩
theorem Rs.below {w w' : World} {B g : Nat} {l : List UInt8} {b : Bool} (h : Rs w B g l b) (hb : Below w.heap.size w w') : Rs w' B g l b := by
  obtain ⟨A, c, hB, hF, h1⟩ := h
  exact ⟨A, c, hB.below hb hB.lt, hF.below hb, h1⟩
theorem Rs.drew {w : World} {B g : Nat} {l : List UInt8} {b : Bool} (h : Rs w B g l b) : Rs w.drew B g l b := by
  obtain ⟨A, c, hB, hF, h1⟩ := h
  exact ⟨A, c, hB.drew, hF.drew, h1⟩

/-- What the reader's methods leave: v was taken, or something is wrong. -/
def RetRd {α : Type} (mk : α → Value) (P : α → Prop) (B g : Nat) (t : Option (α × List UInt8)) (l : List UInt8) (b : Bool) (w : World) (e : Ending) (w' : World) : Prop :=
  ∃ (v : α) (l' : List UInt8) (b' : Bool), e = .returned (mk v) ∧ Rs w' B g l' b' ∧ Hid (Took t b v l' b') ∧ w.grownBy w' (some g) ∧ l'.length ≤ l.length ∧ P v
def mkS (v : List UInt8) : Value := .string ⟨v.toArray⟩
def mkN (n : Nat) : Value := .int .i64 (n : Nat)

set_option maxRecDepth 100000 in
set_option maxHeartbeats 800000 in
theorem rdBytes_calls (B g n : Nat) (nI : Int) (hnI : nI = (n : Nat)) (l : List UInt8) (b : Bool) (w : World) (h : Rs w B g l b) :
    Calls Tryz.prog 229 #[.pointer (some ⟨g, 0, none⟩), .int .i64 nI] w (RetRd mkS (fun v => v.length ≤ n) B g (takeB n l) l b w) := by
  obtain ⟨A, c, hB, hF, hc, hcm, hl, hBg⟩ := h
  have hO := Other.blk hB (by decide) hBg
  have k0 : w.cell? ⟨g, 0, none⟩ = some (.slice A l.length c) := by rw [hB.cell]; rfl
  have k1 : w.cell? ⟨g, 1, none⟩ = some (.int .i64 (errB b)) := by rw [hB.cell]; rfl
  have z0 := hB.free 0
  have z1 := hB.free 1
  by_cases hn : l.length < n
  · have d1 : decide ((l.length : Int) < nI) = true := decide_eq_true (by omega)
    have HT : Hid (takeB n l = none) := by unfold Hid takeB; rw [if_pos hn]
    clear hnI
    go_enter Tryz.func229, Tryz.ntmps229
    go_wp2_with fail
    go_ret
    have hg : w.grownBy (w.setCell ⟨g, 1, none⟩ (.int .i64 2)) (some g) := grown_setCell (World.grownBy.refl w _) 1 _
    exact ⟨[], l, true, rfl, ⟨A, c, hB.set 1 (.int .i64 2), hF.keep hg hO, hc, hcm, hl, hBg⟩, Lib.hid (took_none b _ _ HT.out), hg, Nat.le_refl _, Nat.zero_le _⟩
  · have hn' : n ≤ l.length := by omega
    have d1 : decide ((l.length : Int) < nI) = false := decide_eq_false (by omega)
    have HT : Hid (takeB n l = some (l.take n, l.drop n)) := by unfold Hid takeB; rw [if_neg hn]
    obtain ⟨m, em, jm, jm', ⟨rm, km, km'⟩, _, sm⟩ := sl_to (k := n) nI hnI hF.1 hn' hc hcm
    obtain ⟨q, A', c', eq, jq, jq', hq, _, sq, _, sn⟩ := sl_from (k := n) nI hnI hF.1 hn' hc hcm
    have v1 := conv8f (c := c) rm
    clear hnI hn
    go_enter Tryz.func229, Tryz.ntmps229
    go_wp2_with fail
    go_ret
    have hg : w.grownBy (w.setCell ⟨g, 0, none⟩ (.slice A' q.length c')) (some g) := grown_setCell (World.grownBy.refl w _) 0 _
    have hq2 := hq.2
    refine ⟨m, q, b, rfl, ⟨A', c', hB.set 0 (.slice A' q.length c'), (hF.piece hq (Nat.le_refl _) jq sq).keep hg hO, hq2.1, hq2.2, by omega, hBg⟩, Lib.hid (took_some b ?_), hg, by omega, jm⟩
    rw [HT.out, em.out, eq.out]

set_option maxRecDepth 100000 in
set_option maxHeartbeats 800000 in
theorem rdNum_calls (B g : Nat) (l : List UInt8) (b : Bool) (w : World) (h : Rs w B g l b) :
    Calls Tryz.prog 269 #[.pointer (some ⟨g, 0, none⟩)] w (RetRd mkN (fun n => n ≤ 4611686018427387903) B g (takeNum l) l b w) := by
  obtain ⟨A, c, hB, hF, hc, hcm, hl, hBg⟩ := h
  have hO := Other.blk hB (by decide) hBg
  have k0 : w.cell? ⟨g, 0, none⟩ = some (.slice A l.length c) := by rw [hB.cell]; rfl
  have hgl := hB.lt
  go_enter Tryz.func269, Tryz.ntmps269
  go_wp2_with fail
  refine (TakeNum_calls A l c w hF.1 hl hc).mono ?_
  intro e w1 h1
  rcases ht : takeNum l with _ | ⟨n, q⟩
  · rw [ht] at h1
    obtain ⟨rfl, hb1⟩ := h1
    have hB1 := hB.below hb1 hgl
    have hO1 := Other.blk hB1 (by decide) hBg
    have k1 : w1.cell? ⟨g, 1, none⟩ = some (.int .i64 (errB b)) := by rw [hB1.cell]; rfl
    have z0 := hB1.free 0
    have z1 := hB1.free 1
    have k3 : w1.cell? ⟨g, 0, none⟩ = some (.slice A l.length c) := by rw [hB1.cell]; rfl
    have HT := Lib.hid ht
    clear ht k0
    cases b with
    | false =>
      have k2 : w1.cell? ⟨g, 1, none⟩ = some (.int .i64 0) := k1
      clear k1
      go_wp2_with fail
      go_ret
      have hg : w1.grownBy ((w1.setCell ⟨g, 0, none⟩ (.slice none 0 0)).setCell ⟨g, 1, none⟩ (.int .i64 2)) (some g) := grown_setCell (grown_setCell (World.grownBy.refl w1 _) 0 _) 1 _
      rw [HT.out]
      exact ⟨0, [], true, rfl, ⟨none, 0, (hB1.set 0 (.slice none 0 0)).set 1 (.int .i64 2), Far.nil, Nat.zero_le _, by decide, by decide, hBg⟩, Lib.hid (took_none _ _ _ rfl), grown_step (grown_of_below hb1 _) hg, Nat.zero_le _, by decide⟩
    | true =>
      have k2 : w1.cell? ⟨g, 1, none⟩ = some (.int .i64 2) := k1
      clear k1
      go_wp2_with fail
      go_ret
      have hg : w1.grownBy ((w1.setCell ⟨g, 0, none⟩ (.slice none 0 0)).setCell ⟨g, 1, none⟩ (.int .i64 2)) (some g) := grown_setCell (grown_setCell (World.grownBy.refl w1 _) 0 _) 1 _
      rw [HT.out]
      exact ⟨0, [], true, rfl, ⟨none, 0, (hB1.set 0 (.slice none 0 0)).set 1 (.int .i64 2), Far.nil, Nat.zero_le _, by decide, by decide, hBg⟩, Lib.hid (took_none _ _ _ rfl), grown_step (grown_of_below hb1 _) hg, Nat.zero_le _, by decide⟩
  · rw [ht] at h1
    obtain ⟨q', A', c', e1, rfl, ho1, hb1, i1, i2⟩ := h1
    have hB1 := hB.below hb1 hgl
    have hO1 := Other.blk hB1 (by decide) hBg
    have k1 : w1.cell? ⟨g, 1, none⟩ = some (.int .i64 (errB b)) := by rw [hB1.cell]; rfl
    have z0 := hB1.free 0
    have z1 := hB1.free 1
    have k3 : w1.cell? ⟨g, 0, none⟩ = some (.slice A l.length c) := by rw [hB1.cell]; rfl
    have HT := Lib.hid ht
    have hlt := Lib.hid (takeNum_fewer ht)
    have hn := Lib.hid ((num_takeNum ht).2)
    have hF1 : Far w1 B A' q' := Far.of_seg (Seg.of_own ho1)
    clear ht k0
    cases b with
    | false =>
      have k2 : w1.cell? ⟨g, 1, none⟩ = some (.int .i64 0) := k1
      clear k1
      go_wp2_with fail
      go_ret
      have hg : w1.grownBy ((w1.setCell ⟨g, 0, none⟩ (.slice A' q'.length c')).setCell ⟨g, 1, none⟩ (.int .i64 0)) (some g) := grown_setCell (grown_setCell (World.grownBy.refl w1 _) 0 _) 1 _
      have hq : q'.length < l.length := by rw [e1.out]; exact hlt.out
      rw [HT.out]
      exact ⟨n, q', false, rfl, ⟨A', c', (hB1.set 0 (.slice A' q'.length c')).set 1 (.int .i64 0), hF1.keep hg hO1, i1, i2, by omega, hBg⟩, Lib.hid (took_some _ (by rw [e1.out])), grown_step (grown_of_below hb1 _) hg, by omega, hn.out⟩
    | true =>
      have k2 : w1.cell? ⟨g, 1, none⟩ = some (.int .i64 2) := k1
      clear k1
      go_wp2_with fail
      go_ret
      have hg : w1.grownBy ((w1.setCell ⟨g, 0, none⟩ (.slice A' q'.length c')).setCell ⟨g, 1, none⟩ (.int .i64 2)) (some g) := grown_setCell (grown_setCell (World.grownBy.refl w1 _) 0 _) 1 _
      have hq : q'.length < l.length := by rw [e1.out]; exact hlt.out
      rw [HT.out]
      exact ⟨n, q', true, rfl, ⟨A', c', (hB1.set 0 (.slice A' q'.length c')).set 1 (.int .i64 2), hF1.keep hg hO1, i1, i2, by omega, hBg⟩, Lib.hid (took_some _ (by rw [e1.out])), grown_step (grown_of_below hb1 _) hg, by omega, hn.out⟩

theorem takeT_less {l s q : List UInt8} (h : takeT l = some (s, q)) : q.length ≤ l.length ∧ s.length ≤ 1048576 := by
  unfold takeT at h
  obtain ⟨e, h1, h2⟩ := text_takeText h
  have := congrArg List.length e
  simp only [List.length_append] at this
  omega

set_option maxRecDepth 100000 in
set_option maxHeartbeats 800000 in
theorem rdText_calls (B g : Nat) (l : List UInt8) (b : Bool) (w : World) (h : Rs w B g l b) :
    Calls Tryz.prog 232 #[.pointer (some ⟨g, 0, none⟩)] w (RetRd mkS (fun v => v.length ≤ 1048576) B g (takeT l) l b w) := by
  obtain ⟨A, c, hB, hF, hc, hcm, hl, hBg⟩ := h
  have hO := Other.blk hB (by decide) hBg
  have k0 : w.cell? ⟨g, 0, none⟩ = some (.slice A l.length c) := by rw [hB.cell]; rfl
  have hgl := hB.lt
  go_enter Tryz.func232, Tryz.ntmps232
  go_wp2_with fail
  refine (TakeText_far A l c 1048576 w hF.1 hl hc).mono ?_
  intro e w1 h1
  change RetTextF w (takeT l) e w1 at h1
  rcases ht : takeT l with _ | ⟨s, q⟩
  · rw [ht] at h1
    obtain ⟨rfl, hb1⟩ := h1
    have hB1 := hB.below hb1 hgl
    have hO1 := Other.blk hB1 (by decide) hBg
    have k1 : w1.cell? ⟨g, 1, none⟩ = some (.int .i64 (errB b)) := by rw [hB1.cell]; rfl
    have z0 := hB1.free 0
    have z1 := hB1.free 1
    have k3 : w1.cell? ⟨g, 0, none⟩ = some (.slice A l.length c) := by rw [hB1.cell]; rfl
    have HT := Lib.hid ht
    clear ht k0
    cases b with
    | false =>
      have k2 : w1.cell? ⟨g, 1, none⟩ = some (.int .i64 0) := k1
      clear k1
      go_wp2_with fail
      go_ret
      have hg : w1.grownBy ((w1.setCell ⟨g, 0, none⟩ (.slice none 0 0)).setCell ⟨g, 1, none⟩ (.int .i64 2)) (some g) := grown_setCell (grown_setCell (World.grownBy.refl w1 _) 0 _) 1 _
      rw [HT.out]
      exact ⟨[], [], true, rfl, ⟨none, 0, (hB1.set 0 (.slice none 0 0)).set 1 (.int .i64 2), Far.nil, Nat.zero_le _, by decide, by decide, hBg⟩, Lib.hid (took_none _ _ _ rfl), grown_step (grown_of_below hb1 _) hg, Nat.zero_le _, by decide⟩
    | true =>
      have k2 : w1.cell? ⟨g, 1, none⟩ = some (.int .i64 2) := k1
      clear k1
      go_wp2_with fail
      go_ret
      have hg : w1.grownBy ((w1.setCell ⟨g, 0, none⟩ (.slice none 0 0)).setCell ⟨g, 1, none⟩ (.int .i64 2)) (some g) := grown_setCell (grown_setCell (World.grownBy.refl w1 _) 0 _) 1 _
      rw [HT.out]
      exact ⟨[], [], true, rfl, ⟨none, 0, (hB1.set 0 (.slice none 0 0)).set 1 (.int .i64 2), Far.nil, Nat.zero_le _, by decide, by decide, hBg⟩, Lib.hid (took_none _ _ _ rfl), grown_step (grown_of_below hb1 _) hg, Nat.zero_le _, by decide⟩
  · rw [ht] at h1
    obtain ⟨q', A', c', e1, rfl, hs1, hb1⟩ := h1
    have hB1 := hB.below hb1 hgl
    have hO1 := Other.blk hB1 (by decide) hBg
    have k1 : w1.cell? ⟨g, 1, none⟩ = some (.int .i64 (errB b)) := by rw [hB1.cell]; rfl
    have z0 := hB1.free 0
    have z1 := hB1.free 1
    have k3 : w1.cell? ⟨g, 0, none⟩ = some (.slice A l.length c) := by rw [hB1.cell]; rfl
    have HT := Lib.hid ht
    have hlt := Lib.hid (takeT_less ht)
    have hF1 : Far w1 B A' q' := Far.of_seg hs1
    have i1 := hs1.2.1
    have i2 := hs1.2.2.1
    clear ht k0 hs1
    cases b with
    | false =>
      have k2 : w1.cell? ⟨g, 1, none⟩ = some (.int .i64 0) := k1
      clear k1
      go_wp2_with fail
      go_ret
      have hg : w1.grownBy ((w1.setCell ⟨g, 0, none⟩ (.slice A' q'.length c')).setCell ⟨g, 1, none⟩ (.int .i64 0)) (some g) := grown_setCell (grown_setCell (World.grownBy.refl w1 _) 0 _) 1 _
      have hq : q'.length ≤ l.length := by rw [e1.out]; exact hlt.out.1
      rw [HT.out]
      exact ⟨s, q', false, rfl, ⟨A', c', (hB1.set 0 (.slice A' q'.length c')).set 1 (.int .i64 0), hF1.keep hg hO1, i1, i2, by omega, hBg⟩, Lib.hid (took_some _ (by rw [e1.out])), grown_step (grown_of_below hb1 _) hg, by omega, hlt.out.2⟩
    | true =>
      have k2 : w1.cell? ⟨g, 1, none⟩ = some (.int .i64 2) := k1
      clear k1
      go_wp2_with fail
      go_ret
      have hg : w1.grownBy ((w1.setCell ⟨g, 0, none⟩ (.slice A' q'.length c')).setCell ⟨g, 1, none⟩ (.int .i64 2)) (some g) := grown_setCell (grown_setCell (World.grownBy.refl w1 _) 0 _) 1 _
      have hq : q'.length ≤ l.length := by rw [e1.out]; exact hlt.out.1
      rw [HT.out]
      exact ⟨s, q', true, rfl, ⟨A', c', (hB1.set 0 (.slice A' q'.length c')).set 1 (.int .i64 2), hF1.keep hg hO1, i1, i2, by omega, hBg⟩, Lib.hid (took_some _ (by rw [e1.out])), grown_step (grown_of_below hb1 _) hg, by omega, hlt.out.2⟩

def mkT (v : ByteArray × Int × ByteArray) : Value := .agg #[.string v.1, .int .i64 v.2.1, .string v.2.2]
set_option maxRecDepth 100000 in
set_option maxHeartbeats 1600000 in
theorem rdTold_calls (B g : Nat) (l : List UInt8) (b : Bool) (w : World) (h : Rs w B g l b) :
    Calls Tryz.prog 234 #[.pointer (some ⟨g, 0, none⟩)] w fun e w' => ∃ (v : ByteArray × Int × ByteArray) (l' : List UInt8) (b' : Bool), e = .returned (mkT v) ∧ Rs w' B g l' b' ∧ Hid (Took (toldT l) b v [] b') ∧ w.grownBy w' (some g) := by
  obtain ⟨hgl, hBg⟩ := h.lt
  have hb0 : Below w.heap.size w (w.alloc (.cells #[.string ⟨#[]⟩, .int .i64 0, .string ⟨#[]⟩] 213)) := (Below.refl _ _).alloc (Nat.le_refl _) _
  have hB0 := Blk.new w 213 [.string ⟨#[]⟩, .int .i64 0, .string ⟨#[]⟩]
  have h0 := h.below hb0
  have hne : some w.heap.size ≠ some g := fun e => by injection e with e; omega
  go_enter Tryz.func234, Tryz.ntmps234
  go_wp2_with fail
  refine (rdText_calls B g l b _ h0).mono ?_
  rintro e w1 ⟨who, l1, b1, rfl, h1, t1, g1, y1, _⟩
  have hB1 := hB0.grown g1 hne
  unfold mkS
  go_wp2_with fail
  refine (rdNum_calls B g l1 b1 _ h1).mono ?_
  rintro e w2 ⟨n, l2, b2, rfl, h2, t2, g2, y2, _⟩
  have hB2 := hB1.grown g2 hne
  unfold mkN
  go_wp2_with fail
  refine (rdText_calls B g l2 b2 _ h2).mono ?_
  rintro e w3 ⟨tx, l3, b3, rfl, h3, t3, g3, y3, _⟩
  have hB3 := hB2.grown g3 hne
  unfold mkS
  have HT : Hid (Took (toldT l) b ((⟨who.toArray⟩, (n : Int), ⟨tx.toArray⟩) : ByteArray × Int × ByteArray) [] b3) := took_told t1.out t2.out t3.out
  clear t1 t2 t3
  go_wp2_with ((refine wpList_store_blk (by rfl) _ (.tmp 2) (.tmp 9) rfl w.heap.size [.string ⟨who.toArray⟩, .int .i64 (n : Nat), .string ⟨tx.toArray⟩] rfl rfl 213 [.string ⟨#[]⟩, .int .i64 0, .string ⟨#[]⟩] hB3 (by kernel_rfl) rfl (by intro v hv; simp only [List.mem_cons, List.not_mem_nil, or_false] at hv; rcases hv with rfl | rfl | rfl <;> rfl) ?_; intro w4 hB4 hg4))
  have q0 : w4.cell? ⟨w.heap.size, 0, none⟩ = some (.string ⟨who.toArray⟩) := by rw [hB4.cell]; rfl
  have q1 : w4.cell? ⟨w.heap.size, 1, none⟩ = some (.int .i64 (n : Nat)) := by rw [hB4.cell]; rfl
  have q2 : w4.cell? ⟨w.heap.size, 2, none⟩ = some (.string ⟨tx.toArray⟩) := by rw [hB4.cell]; rfl
  have hw : w.grownBy w4 (some g) := by
    have h5 := grown_step (grown_step (grown_of_below hb0 (some g)) (grown_step g1 g2)) g3
    refine ⟨hg4.os.trans h5.os, hg4.tape.trans h5.tape, hg4.output.trans h5.output, Nat.le_trans h5.size hg4.size, fun k hk hkg => ?_⟩
    rw [hg4.block k (Nat.lt_of_lt_of_le hk h5.size) (fun e => by injection e with e; omega), h5.block k hk hkg]
  refine bodyPost_ret (v := mkT (⟨who.toArray⟩, (n : Int), ⟨tx.toArray⟩)) ?_ rfl ⟨_, l3, b3, rfl, h3.keep hg4 (fun e => by injection e with e; omega) (Other.blk hB3 (by decide) (by omega)), HT, hw⟩
  unfold mkT
  simp [results, Tryz.results234, asAddr, q0, q1, q2, go_sem]
end Go.Proofs.YtecpbcmpncgokaaGreat

namespace Go.Dol
open Go.RowKit
/-- The cells of one element that was just made. -/
theorem Rd.new3 (w : World) (T : TypeId) (u v x : Value) : Rd (w.alloc (.cells #[u, v, x] T)) (w.heap.size + 1) 3 (some ⟨w.heap.size, 0, none⟩) 1 [u, v, x] := by
  refine ⟨by simp, fun _ => ⟨w.heap.size, 0, rfl, by omega, fun j u' hu => ?_⟩⟩
  have hB := Blk.new w T [u, v, x]
  rw [Nat.zero_add]
  exact (hB.cell j).trans hu
end Go.Dol
namespace Go.Proofs.YtecpbcmpncgokaaGreat
open Go.RowKit Go.Dol
set_option linter.unusedVariables false

theorem info_ent : (Tryz.prog.info? 177).map (fun i => (i.zero, i.size, i.bytes)) = some (some (.agg #[.string ⟨#[]⟩, .bool false, .string ⟨#[]⟩]), 3, 40) := by kernel_rfl
theorem info_st : (Tryz.prog.info? 9).map (fun i => (i.zero, i.size, i.bytes)) = some (some (.string ⟨#[]⟩), 1, 16) := by kernel_rfl
theorem ec_append (a b : List Ent) : ec (a ++ b) = ec a ++ ec b := by simp [ec]
theorem pc_app (a b : List ByteArray) : pc (a ++ b) = pc a ++ pc b := by simp [pc]

theorem blk_apart {w : World} {g g' : Nat} {T T' : TypeId} {cs cs' : List Value} (h : Blk w g T cs) (h' : Blk w g' T' cs') (hT : T ≠ T') : some g ≠ some g' := fun e => by
  injection e with e
  subst e
  unfold Blk at h h'
  rw [h] at h'
  injection h' with h'
  injection h' with _ h'
  exact hT h'
/-- A reader that is captured, and the tree that is being read. -/
def TreeSt (w : World) (B gx gr g : Nat) (en : List Ent) (l : List UInt8) (b : Bool) : Prop :=
  ∃ (A : Option Addr) (c : Nat), Blk w gx 217 [.slice A en.length c] ∧ w.ownsRow B 177 3 (.slice A en.length c) en.length (ec en) ∧ Blk w gr 222 [.pointer (some ⟨g, 0, none⟩)] ∧ Rs w B g l b ∧ B ≤ gx ∧ B ≤ gr ∧ B ≤ w.heap.size
theorem TreeSt.calm {w w' : World} {B gx gr g : Nat} {en : List Ent} {l l' : List UInt8} {b b' : Bool} (h : TreeSt w B gx gr g en l b) (hR : Rs w' B g l' b') (hg : w.grownBy w' (some g)) : TreeSt w' B gx gr g en l' b' := by
  obtain ⟨A, c, h1, h2, h3, h4, h5, h6, h7⟩ := h
  obtain ⟨Ar, cr, h8, _⟩ := h4
  have n1 := blk_apart h1 h8 (by decide)
  have n2 := blk_apart h3 h8 (by decide)
  exact ⟨A, c, h1.grown hg n1, own_other h2 h8 (by decide) hg, h3.grown hg n2, hR, h5, h6, Nat.le_trans h7 hg.size⟩

def RetEntry (B gx gr g : Nat) (en : List Ent) (l : List UInt8) (b : Bool) (w : World) (e : Ending) (w' : World) : Prop :=
  ∃ (v : Ent) (l' : List UInt8) (b' : Bool), e = .returned (.tuple #[]) ∧ TreeSt w' B gx gr g (en ++ [v]) l' b' ∧ Hid (Took (takeEnt l) b v l' b') ∧ Below B w w' ∧ l'.length ≤ l.length

set_option maxRecDepth 100000 in
set_option maxHeartbeats 4000000 in
theorem entry_calls (B gx gr g : Nat) (en : List Ent) (l : List UInt8) (b : Bool) (w : World) (h : TreeSt w B gx gr g en l b) (hen : en.length + 1 ≤ 5000000000000) :
    Calls Tryz.prog 231 #[.pointer (some ⟨gx, 0, none⟩), .pointer (some ⟨gr, 0, none⟩)] w (RetEntry B gx gr g en l b w) := by
  obtain ⟨A, c, hX, hE, hG, hR, hBx, hBr, hBw⟩ := h
  obtain ⟨_, hBg⟩ := hR.lt
  obtain ⟨Ar, cr, hRb, _⟩ := id hR
  have n1 := blk_apart hX hRb (by decide)
  have n2 := blk_apart hG hRb (by decide)
  have z0 : w.cell? ⟨gx, 0, none⟩ = some (.slice A en.length c) := by rw [hX.cell]; rfl
  have y0 : w.cell? ⟨gr, 0, none⟩ = some (.pointer (some ⟨g, 0, none⟩)) := by rw [hG.cell]; rfl
  go_enter Tryz.func231, Tryz.ntmps231
  go_wp2_with fail
  refine wp_region_last (S := fun w' => w'.cell? ⟨gx, 0, none⟩ = some (.slice A en.length c) ∧ w'.cell? ⟨gr, 0, none⟩ = some (.pointer (some ⟨g, 0, none⟩))) 13 _ (by kernel_rfl) rfl (by kernel_rfl) rfl rfl ⟨z0, y0⟩ (fun hHeld => ?_)
  simp only [List.setIfInBounds_toArray, List.set_cons_zero, List.set_cons_succ, idle, List.getElem_toArray, List.getElem_cons_succ, List.getElem_cons_zero]
  refine wpAnyH_take (i := 0) (oi := _) (v := .pointer (some ⟨gx, 0, none⟩)) rfl (by kernel_rfl) (by kernel_rfl) (by kernel_rfl) (fun _ _ _ h => h) (Or.inl ⟨by rfl, fun w' hS => ?_⟩) hHeld ?_
  · obtain ⟨s0, s1⟩ := hS
    go_simp
  try simp only [Act.put, List.setIfInBounds_toArray]
  refine wpAnyH_take (i := 1) (oi := _) (v := .slice A en.length c) rfl (by kernel_rfl) (by kernel_rfl) (by kernel_rfl) (fun _ _ _ h => h) (Or.inl ⟨by rfl, fun w' hS => ?_⟩) hHeld ?_
  · obtain ⟨s0, s1⟩ := hS
    go_simp
  try simp only [Act.put]
  refine wpAnyH_take (i := 2) (oi := _) (v := .pointer (some ⟨g, 0, none⟩)) rfl (by kernel_rfl) (by kernel_rfl) (by kernel_rfl) (fun _ _ _ h => h) (Or.inl ⟨by rfl, fun w' hS => ?_⟩) hHeld ?_
  · obtain ⟨s0, s1⟩ := hS
    go_simp
  try simp only [Act.put]
  refine wpAnyH_take (i := 4) (oi := _) (v := .pointer (some ⟨g, 0, none⟩)) rfl (by kernel_rfl) (by kernel_rfl) (by kernel_rfl) (fun _ _ _ h => h) (Or.inl ⟨by rfl, fun w' hS => ?_⟩) hHeld ?_
  · obtain ⟨s0, s1⟩ := hS
    go_simp
  try simp only [Act.put]
  refine wpAnyH_take (i := 7) (oi := _) (v := .pointer (some ⟨g, 0, none⟩)) rfl (by kernel_rfl) (by kernel_rfl) (by kernel_rfl) (fun _ _ _ h => h) (Or.inl ⟨by rfl, fun w' hS => ?_⟩) hHeld ?_
  · obtain ⟨s0, s1⟩ := hS
    go_simp
  try simp only [Act.put]
  refine wpAnyH_ready (rs := [3]) (by kernel_rfl) (by simp) (AllReadyH.cons (o := _) rfl (fun K hK => ?_) AllReadyH.nil)
  go_simp
  refine (rdText_calls B g l b w.drew hR.drew).mono ?_
  rintro e w1 ⟨nm, l1, b1, rfl, h1, t1, g1, q1, _⟩
  have hE1 := own_other (w := w.drew) hE hRb.drew (by decide) g1
  obtain ⟨Ar1, cr1, hRb1, _⟩ := id h1
  have hX1 := hX.drew.grown g1 n1
  have hG1 := hG.drew.grown g1 n2
  have z1 : w1.cell? ⟨gx, 0, none⟩ = some (.slice A en.length c) := by rw [hX1.cell]; rfl
  have y1 : w1.cell? ⟨gr, 0, none⟩ = some (.pointer (some ⟨g, 0, none⟩)) := by rw [hG1.cell]; rfl
  unfold mkS
  refine hK.out _ _ ⟨z1, y1⟩ (fun hHeld => ?_)
  clear hK K
  try simp only [Act.put, List.setIfInBounds_toArray, List.set_cons_zero, List.set_cons_succ]
  refine wpAnyH_ready (rs := [5]) (by kernel_rfl) (by simp) (AllReadyH.cons (o := _) rfl (fun K hK => ?_) AllReadyH.nil)
  go_simp
  refine (rdBytes_calls B g 1 1 rfl l1 b1 w1 h1).mono ?_
  rintro e w2 ⟨dd, l2, b2, rfl, h2, t2, g2, q2, _⟩
  have hE2 := own_other hE1 hRb1 (by decide) g2
  obtain ⟨Ar2, cr2, hRb2, _⟩ := id h2
  have hX2 := hX1.grown g2 n1
  have hG2 := hG1.grown g2 n2
  have z2 : w2.cell? ⟨gx, 0, none⟩ = some (.slice A en.length c) := by rw [hX2.cell]; rfl
  have y2 : w2.cell? ⟨gr, 0, none⟩ = some (.pointer (some ⟨g, 0, none⟩)) := by rw [hG2.cell]; rfl
  unfold mkS
  refine hK.out _ _ ⟨z2, y2⟩ (fun hHeld => ?_)
  clear hK K
  try simp only [Act.put, List.setIfInBounds_toArray, List.set_cons_zero, List.set_cons_succ]
  refine wpAnyH_take (i := 6) (oi := _) (v := .bool (dd == [1])) rfl (by kernel_rfl) (by kernel_rfl) (by kernel_rfl) (fun _ _ _ h => h) (Or.inl ⟨by rfl, fun w' hS => ?_⟩) hHeld ?_
  · obtain ⟨s0, s1⟩ := hS
    go_simp
  try simp only [Act.put, List.setIfInBounds_toArray]
  refine wpAnyH_ready (rs := [8]) (by kernel_rfl) (by simp) (AllReadyH.cons (o := _) rfl (fun K hK => ?_) AllReadyH.nil)
  go_simp
  refine (rdBytes_calls B g 32 32 rfl l2 b2 w2 h2).mono ?_
  rintro e w3 ⟨ii, l3, b3, rfl, h3, t3, g3, q3, _⟩
  have hE3 := own_other hE2 hRb2 (by decide) g3
  have hX3 := hX2.grown g3 n1
  have hG3 := hG2.grown g3 n2
  have z3 : w3.cell? ⟨gx, 0, none⟩ = some (.slice A en.length c) := by rw [hX3.cell]; rfl
  have y3 : w3.cell? ⟨gr, 0, none⟩ = some (.pointer (some ⟨g, 0, none⟩)) := by rw [hG3.cell]; rfl
  unfold mkS
  refine hK.out _ _ ⟨z3, y3⟩ (fun hHeld => ?_)
  clear hK K
  try simp only [Act.put, List.setIfInBounds_toArray, List.set_cons_zero, List.set_cons_succ]
  refine wpAnyH_take (i := 9) (oi := _) (v := .agg #[.string ⟨nm.toArray⟩, .bool (dd == [1]), .string ⟨ii.toArray⟩]) rfl (by kernel_rfl) (by kernel_rfl) (by kernel_rfl) (fun _ _ _ h => h) (Or.inl ⟨by rfl, fun w' hS => ?_⟩) hHeld ?_
  · obtain ⟨s0, s1⟩ := hS
    go_simp
  try simp only [Act.put, List.setIfInBounds_toArray]
  have hE4 := hE3.alloc (.cells #[.string ⟨nm.toArray⟩, .bool (dd == [1]), .string ⟨ii.toArray⟩] 177)
  have hr4 := Rd.new3 w3 177 (.string ⟨nm.toArray⟩) (.bool (dd == [1])) (.string ⟨ii.toArray⟩)
  have h14 : ∀ u ∈ [Value.string ⟨nm.toArray⟩, .bool (dd == [1]), .string ⟨ii.toArray⟩], u.oneCell' = true := by
    intro u hu
    simp only [List.mem_cons, List.not_mem_nil, or_false] at hu
    rcases hu with rfl | rfl | rfl <;> rfl
  have s1 : w.heap.size ≤ w1.heap.size := g1.size
  have s2 := g2.size
  have s3 := g3.size
  have hb4 : Below w3.heap.size w3 (w3.alloc (.cells #[.string ⟨nm.toArray⟩, .bool (dd == [1]), .string ⟨ii.toArray⟩] 177)) := (Below.refl _ _).alloc (Nat.le_refl _) _
  have hBw4 : B ≤ (w3.alloc (.cells #[.string ⟨nm.toArray⟩, .bool (dd == [1]), .string ⟨ii.toArray⟩] 177)).heap.size := Nat.le_trans (by omega) hb4.size
  have h4 := h3.below hb4
  have hX4 := hX3.alloc (.cells #[.string ⟨nm.toArray⟩, .bool (dd == [1]), .string ⟨ii.toArray⟩] 177)
  have hG4 := hG3.alloc (.cells #[.string ⟨nm.toArray⟩, .bool (dd == [1]), .string ⟨ii.toArray⟩] 177)
  have z4 : (w3.alloc (.cells #[.string ⟨nm.toArray⟩, .bool (dd == [1]), .string ⟨ii.toArray⟩] 177)).cell? ⟨gx, 0, none⟩ = some (.slice A en.length c) := by rw [hX4.cell]; rfl
  have n3 : some gx ≠ (Value.slice A en.length c).ownBlock := fun e => own_ne hE4 hX4 (by decide) e.symm
  have n4 : some gr ≠ (Value.slice A en.length c).ownBlock := fun e => own_ne hE4 hG4 (by decide) e.symm
  obtain ⟨Ar4, cr4, hRb4, _⟩ := id h4
  have n5 : some g ≠ (Value.slice A en.length c).ownBlock := fun e => own_ne hE4 hRb4 (by decide) e.symm
  have hO4 : Other _ B (Value.slice A en.length c).ownBlock := Other.own hE4 (by decide) (Nat.le_refl _)
  have y4 : (w3.alloc (.cells #[.string ⟨nm.toArray⟩, .bool (dd == [1]), .string ⟨ii.toArray⟩] 177)).cell? ⟨gr, 0, none⟩ = some (.pointer (some ⟨g, 0, none⟩)) := by rw [hG4.cell]; rfl
  refine wpAnyH_ready (rs := [10]) (by kernel_rfl) (by simp) (AllReadyH.cons (o := _) rfl (fun K hK => ?_) AllReadyH.nil)
  go_simp
  refine hK.out _ _ ⟨z4, y4⟩ (fun hHeld => ?_)
  clear hK K
  try simp only [Act.put, List.setIfInBounds_toArray, List.set_cons_zero, List.set_cons_succ]
  refine wpAnyH_ready (rs := [11]) (by kernel_rfl) (by simp) (AllReadyH.cons (o := _) rfl (fun K hK => ?_) AllReadyH.nil)
  refine appNr rfl (.tmp 3) (.tmp 12) 37 177 _ 3 40 rfl Tryz.underlying37 info_ent rfl (by decide) B _ en.length (ec en) rfl hE4 _ _ 1 1 _ rfl hr4 h14 (by unfold maxLen; omega) (by omega) hBw4 ?_
  intro A5 c5 w5 hE5 hb5 hg5 _ _
  have hX5 := hX4.grown hg5 n3
  have hG5 := hG4.grown hg5 n4
  have z5 : w5.cell? ⟨gx, 0, none⟩ = some (.slice A en.length c) := by rw [hX5.cell]; rfl
  have y5 : w5.cell? ⟨gr, 0, none⟩ = some (.pointer (some ⟨g, 0, none⟩)) := by rw [hG5.cell]; rfl
  refine hK.out _ _ ⟨z5, y5⟩ (fun hHeld => ?_)
  clear hK K
  try simp only [Act.put, List.setIfInBounds_toArray]
  refine wpAnyH_take (i := 12) (oi := _) (v := .pointer (some ⟨gx, 0, none⟩)) rfl (by kernel_rfl) (by kernel_rfl) (by kernel_rfl) (fun _ _ _ h => h) (Or.inl ⟨by rfl, fun w' hS => ?_⟩) hHeld ?_
  · obtain ⟨s0, s1⟩ := hS
    go_simp
  try simp only [Act.put]
  refine wpAnyH_take (i := 13) (oi := _) (v := undef) rfl (by kernel_rfl) (by kernel_rfl) (by kernel_rfl) (fun _ _ _ h => h) (Or.inl ⟨by rfl, fun w' hS => ?_⟩) hHeld ?_
  · obtain ⟨s0, s1⟩ := hS
    go_simp
  try simp only [Act.put]
  refine wpAnyH_done (by kernel_rfl) ?_ _
  have f5 := hX5.free 0
  simp only [lastQ]
  go_simp
  have h5 := h4.keep hg5 n5 hO4
  have hX6 := hX5.set 0 (.slice A5 (en.length + 1) c5)
  have hgx : w5.grownBy (w5.setCell ⟨gx, 0, none⟩ (.slice A5 (en.length + 1) c5)) (some gx) := grown_setCell (World.grownBy.refl w5 _) 0 _
  have h6 := h5.keep hgx n1.symm (Other.blk hX5 (by decide) hBx)
  have hE6 := own_other hE5 hX5 (by decide) hgx
  have hG6 := hG5.grown hgx (blk_apart hG5 hX5 (by decide))
  have hbe : Below B w (w5.setCell ⟨gx, 0, none⟩ (.slice A5 (en.length + 1) c5)) := ((Below.refl B w).drew).trans
    ((((below_of_grown g1 hBg hBw : Below B w.drew w1).trans (below_of_grown g2 hBg (by omega))).trans (below_of_grown g3 hBg (by omega))).trans (((hb4.mono (by omega)).trans hb5).trans (below_of_grown hgx hBx (Nat.le_trans hBw4 hg5.size))))
  have hBw6 := hbe.size
  have e1 : en.length + 1 = (en ++ [(⟨⟨nm.toArray⟩, decide (dd = [1]), ⟨ii.toArray⟩⟩ : Ent)]).length := by simp
  have HT := Lib.hid (took_ent t1.out t2.out t3.out)
  have hec : ec en ++ [Value.string ⟨nm.toArray⟩, .bool (dd == [1]), .string ⟨ii.toArray⟩] = ec (en ++ [(⟨⟨nm.toArray⟩, decide (dd = [1]), ⟨ii.toArray⟩⟩ : Ent)]) := by
    rw [ec_append]
    have hdd : (dd == [1]) = decide (dd = [1]) := by by_cases h : dd = [1] <;> simp [h]
    rw [hdd]
    rfl
  rw [hec] at hE6
  obtain ⟨w6, hw6⟩ : ∃ w6, w6 = w5.setCell ⟨gx, 0, none⟩ (.slice A5 (en.length + 1) c5) := ⟨_, rfl⟩
  rw [← hw6] at hX6 hE6 hG6 h6 hbe hBw6 ⊢
  rw [e1] at hX6 hE6
  go_end0
  exact ⟨_, l3, b3, rfl, ⟨A5, c5, hX6, hE6, hG6, h6, hBx, hBr, Nat.le_trans hBw hBw6⟩, HT, hbe, by omega⟩


/-- A reader that is captured, and the commit that is being read. -/
def ComSt (w : World) (B gx gr g : Nat) (tr wh : ByteArray) (st : Int) (te : ByteArray) (pa : List ByteArray) (l : List UInt8) (b : Bool) : Prop :=
  ∃ (A : Option Addr) (c : Nat), Blk w gx 219 [.string tr, .slice A pa.length c, .string wh, .int .i64 st, .string te] ∧ w.ownsRow B 9 1 (.slice A pa.length c) pa.length (pc pa) ∧ Blk w gr 222 [.pointer (some ⟨g, 0, none⟩)] ∧ Rs w B g l b ∧ B ≤ gx ∧ B ≤ gr ∧ B ≤ w.heap.size
theorem ComSt.calm {w w' : World} {B gx gr g : Nat} {tr wh : ByteArray} {st : Int} {te : ByteArray} {pa : List ByteArray} {l l' : List UInt8} {b b' : Bool} (h : ComSt w B gx gr g tr wh st te pa l b) (hR : Rs w' B g l' b') (hg : w.grownBy w' (some g)) : ComSt w' B gx gr g tr wh st te pa l' b' := by
  obtain ⟨A, c, h1, h2, h3, h4, h5, h6, h7⟩ := h
  obtain ⟨Ar, cr, h8, _⟩ := h4
  exact ⟨A, c, h1.grown hg (blk_apart h1 h8 (by decide)), own_other h2 h8 (by decide) hg, h3.grown hg (blk_apart h3 h8 (by decide)), hR, h5, h6, Nat.le_trans h7 hg.size⟩
def RetParent (B gx gr g : Nat) (tr wh : ByteArray) (st : Int) (te : ByteArray) (pa : List ByteArray) (l : List UInt8) (b : Bool) (w : World) (e : Ending) (w' : World) : Prop :=
  ∃ (v : ByteArray) (l' : List UInt8) (b' : Bool), e = .returned (.tuple #[]) ∧ ComSt w' B gx gr g tr wh st te (pa ++ [v]) l' b' ∧ Hid (Took (takePar l) b v l' b') ∧ Below B w w' ∧ l'.length ≤ l.length ∧ v.size ≤ 32

theorem took_par {l l' : List UInt8} {b b' : Bool} {v : List UInt8} (h : Took (takeB 32 l) b v l' b') : Took (takePar l) b (⟨v.toArray⟩ : ByteArray) l' b' := by
  rcases h with ⟨e, h⟩ | ⟨e, e0, h⟩
  · refine .inl ⟨e, ?_⟩
    rcases h with h | h
    · exact .inl h
    · exact .inr (by unfold takePar; rw [h])
  · exact .inr ⟨e, e0, by unfold takePar; rw [h]⟩

set_option maxRecDepth 100000 in
set_option maxHeartbeats 4000000 in
theorem parent_calls (B gx gr g : Nat) (tr wh : ByteArray) (st : Int) (te : ByteArray) (pa : List ByteArray) (l : List UInt8) (b : Bool) (w : World) (h : ComSt w B gx gr g tr wh st te pa l b) (hpa : pa.length + 1 ≤ 8000000000000) :
    Calls Tryz.prog 233 #[.pointer (some ⟨gx, 0, none⟩), .pointer (some ⟨gr, 0, none⟩)] w (RetParent B gx gr g tr wh st te pa l b w) := by
  obtain ⟨A, c, hX, hE, hG, hR, hBx, hBr, hBw⟩ := h
  obtain ⟨_, hBg⟩ := hR.lt
  obtain ⟨Ar, cr, hRb, _⟩ := id hR
  have n1 := blk_apart hX hRb (by decide)
  have n2 := blk_apart hG hRb (by decide)
  have z0 : w.cell? ⟨gx, 1, none⟩ = some (.slice A pa.length c) := by rw [hX.cell]; rfl
  have y0 : w.cell? ⟨gr, 0, none⟩ = some (.pointer (some ⟨g, 0, none⟩)) := by rw [hG.cell]; rfl
  go_enter Tryz.func233, Tryz.ntmps233
  go_wp2_with fail
  refine wp_region_last (S := fun w' => w'.cell? ⟨gx, 1, none⟩ = some (.slice A pa.length c) ∧ w'.cell? ⟨gr, 0, none⟩ = some (.pointer (some ⟨g, 0, none⟩))) 7 _ (by kernel_rfl) rfl (by kernel_rfl) rfl rfl ⟨z0, y0⟩ (fun hHeld => ?_)
  simp only [List.setIfInBounds_toArray, List.set_cons_zero, List.set_cons_succ, idle, List.getElem_toArray, List.getElem_cons_succ, List.getElem_cons_zero]
  refine wpAnyH_take (i := 0) (oi := _) (v := .pointer (some ⟨gx, 1, none⟩)) rfl (by kernel_rfl) (by kernel_rfl) (by kernel_rfl) (fun _ _ _ h => h) (Or.inl ⟨by rfl, fun w' hS => ?_⟩) hHeld ?_
  · obtain ⟨s0, s1⟩ := hS
    go_simp
  try simp only [Act.put, List.setIfInBounds_toArray]
  refine wpAnyH_take (i := 1) (oi := _) (v := .slice A pa.length c) rfl (by kernel_rfl) (by kernel_rfl) (by kernel_rfl) (fun _ _ _ h => h) (Or.inl ⟨by rfl, fun w' hS => ?_⟩) hHeld ?_
  · obtain ⟨s0, s1⟩ := hS
    go_simp
  try simp only [Act.put]
  refine wpAnyH_take (i := 2) (oi := _) (v := .pointer (some ⟨g, 0, none⟩)) rfl (by kernel_rfl) (by kernel_rfl) (by kernel_rfl) (fun _ _ _ h => h) (Or.inl ⟨by rfl, fun w' hS => ?_⟩) hHeld ?_
  · obtain ⟨s0, s1⟩ := hS
    go_simp
  try simp only [Act.put]
  refine wpAnyH_ready (rs := [3]) (by kernel_rfl) (by simp) (AllReadyH.cons (o := _) rfl (fun K hK => ?_) AllReadyH.nil)
  go_simp
  refine (rdBytes_calls B g 32 32 rfl l b w.drew hR.drew).mono ?_
  rintro e w1 ⟨ii, l1, b1, rfl, h1, t1, g1, q1, hi32⟩
  have hE1 := own_other (w := w.drew) hE hRb.drew (by decide) g1
  have hX1 := hX.drew.grown g1 n1
  have hG1 := hG.drew.grown g1 n2
  have z1 : w1.cell? ⟨gx, 1, none⟩ = some (.slice A pa.length c) := by rw [hX1.cell]; rfl
  have y1 : w1.cell? ⟨gr, 0, none⟩ = some (.pointer (some ⟨g, 0, none⟩)) := by rw [hG1.cell]; rfl
  unfold mkS
  refine hK.out _ _ ⟨z1, y1⟩ (fun hHeld => ?_)
  clear hK K
  try simp only [Act.put, List.setIfInBounds_toArray, List.set_cons_zero, List.set_cons_succ]
  have hE4 := hE1.alloc (.cells #[.string ⟨ii.toArray⟩] 9)
  have hr4 := Rd.new1 w1 9 (.string ⟨ii.toArray⟩)
  have h14 : ∀ u ∈ [Value.string ⟨ii.toArray⟩], u.oneCell' = true := by
    intro u hu
    obtain rfl := List.mem_singleton.1 hu
    rfl
  have s1 : w.heap.size ≤ w1.heap.size := g1.size
  have hb4 : Below w1.heap.size w1 (w1.alloc (.cells #[.string ⟨ii.toArray⟩] 9)) := (Below.refl _ _).alloc (Nat.le_refl _) _
  have hBw4 : B ≤ (w1.alloc (.cells #[.string ⟨ii.toArray⟩] 9)).heap.size := Nat.le_trans (by omega) hb4.size
  have h4 := h1.below hb4
  have hX4 := hX1.alloc (.cells #[.string ⟨ii.toArray⟩] 9)
  have hG4 := hG1.alloc (.cells #[.string ⟨ii.toArray⟩] 9)
  have z4 : (w1.alloc (.cells #[.string ⟨ii.toArray⟩] 9)).cell? ⟨gx, 1, none⟩ = some (.slice A pa.length c) := by rw [hX4.cell]; rfl
  have n3 : some gx ≠ (Value.slice A pa.length c).ownBlock := fun e => own_ne hE4 hX4 (by decide) e.symm
  have n4 : some gr ≠ (Value.slice A pa.length c).ownBlock := fun e => own_ne hE4 hG4 (by decide) e.symm
  obtain ⟨Ar4, cr4, hRb4, _⟩ := id h4
  have n5 : some g ≠ (Value.slice A pa.length c).ownBlock := fun e => own_ne hE4 hRb4 (by decide) e.symm
  have hO4 : Other _ B (Value.slice A pa.length c).ownBlock := Other.own hE4 (by decide) (Nat.le_refl _)
  have y4 : (w1.alloc (.cells #[.string ⟨ii.toArray⟩] 9)).cell? ⟨gr, 0, none⟩ = some (.pointer (some ⟨g, 0, none⟩)) := by rw [hG4.cell]; rfl
  refine wpAnyH_ready (rs := [4]) (by kernel_rfl) (by simp) (AllReadyH.cons (o := _) rfl (fun K hK => ?_) AllReadyH.nil)
  go_simp
  refine hK.out _ _ ⟨z4, y4⟩ (fun hHeld => ?_)
  clear hK K
  try simp only [Act.put, List.setIfInBounds_toArray, List.set_cons_zero, List.set_cons_succ]
  refine wpAnyH_ready (rs := [5]) (by kernel_rfl) (by simp) (AllReadyH.cons (o := _) rfl (fun K hK => ?_) AllReadyH.nil)
  refine appNr rfl (.tmp 3) (.tmp 6) 38 9 _ 1 16 rfl Tryz.underlying38 info_st rfl (by decide) B _ pa.length (pc pa) rfl hE4 _ _ 1 1 _ rfl hr4 h14 (by unfold maxLen; omega) (by omega) hBw4 ?_
  intro A5 c5 w5 hE5 hb5 hg5 _ _
  have hX5 := hX4.grown hg5 n3
  have hG5 := hG4.grown hg5 n4
  have z5 : w5.cell? ⟨gx, 1, none⟩ = some (.slice A pa.length c) := by rw [hX5.cell]; rfl
  have y5 : w5.cell? ⟨gr, 0, none⟩ = some (.pointer (some ⟨g, 0, none⟩)) := by rw [hG5.cell]; rfl
  refine hK.out _ _ ⟨z5, y5⟩ (fun hHeld => ?_)
  clear hK K
  try simp only [Act.put, List.setIfInBounds_toArray]
  refine wpAnyH_take (i := 6) (oi := _) (v := .pointer (some ⟨gx, 1, none⟩)) rfl (by kernel_rfl) (by kernel_rfl) (by kernel_rfl) (fun _ _ _ h => h) (Or.inl ⟨by rfl, fun w' hS => ?_⟩) hHeld ?_
  · obtain ⟨s0, s1⟩ := hS
    go_simp
  try simp only [Act.put]
  refine wpAnyH_take (i := 7) (oi := _) (v := undef) rfl (by kernel_rfl) (by kernel_rfl) (by kernel_rfl) (fun _ _ _ h => h) (Or.inl ⟨by rfl, fun w' hS => ?_⟩) hHeld ?_
  · obtain ⟨s0, s1⟩ := hS
    go_simp
  try simp only [Act.put]
  refine wpAnyH_done (by kernel_rfl) ?_ _
  have f5 := hX5.free 1
  simp only [lastQ]
  go_simp
  have h5 := h4.keep hg5 n5 hO4
  have hX6 := hX5.set 1 (.slice A5 (pa.length + 1) c5)
  have hgx : w5.grownBy (w5.setCell ⟨gx, 1, none⟩ (.slice A5 (pa.length + 1) c5)) (some gx) := grown_setCell (World.grownBy.refl w5 _) 1 _
  have h6 := h5.keep hgx n1.symm (Other.blk hX5 (by decide) hBx)
  have hE6 := own_other hE5 hX5 (by decide) hgx
  have hG6 := hG5.grown hgx (blk_apart hG5 hX5 (by decide))
  have hbe : Below B w (w5.setCell ⟨gx, 1, none⟩ (.slice A5 (pa.length + 1) c5)) := ((Below.refl B w).drew).trans
    ((below_of_grown g1 hBg hBw : Below B w.drew w1).trans (((hb4.mono (by omega)).trans hb5).trans (below_of_grown hgx hBx (Nat.le_trans hBw4 hg5.size))))
  have hBw6 := hbe.size
  have e1 : pa.length + 1 = (pa ++ [(⟨ii.toArray⟩ : ByteArray)]).length := by simp
  have HT := Lib.hid (took_par t1.out)
  have hec : pc pa ++ [Value.string ⟨ii.toArray⟩] = pc (pa ++ [(⟨ii.toArray⟩ : ByteArray)]) := by
    rw [pc_app]
    rfl
  rw [hec] at hE6
  obtain ⟨w6, hw6⟩ : ∃ w6, w6 = w5.setCell ⟨gx, 1, none⟩ (.slice A5 (pa.length + 1) c5) := ⟨_, rfl⟩
  rw [← hw6] at hX6 hE6 hG6 h6 hbe hBw6 ⊢
  rw [e1] at hX6 hE6
  go_end0
  exact ⟨_, l1, b1, rfl, ⟨A5, c5, hX6, hE6, hG6, h6, hBx, hBr, Nat.le_trans hBw hBw6⟩, HT, hbe, q1, hi32⟩

theorem takeEnt_less {l r : List UInt8} {e : Ent} (h : takeEnt l = some (e, r)) : r.length + 33 ≤ l.length := by
  unfold takeEnt at h
  split at h
  · cases h
  · rename_i nm r1 h1
    split at h
    · cases h
    · rename_i d r2 h2
      split at h
      · cases h
      · rename_i i r3 h3
        injection h with h
        injection h with _ h
        subst h
        have a1 := (takeT_less h1).1
        have a2 := (takeB_less h2).2
        have a3 := (takeB_less h3).2
        omega
theorem takePar_less {l r : List UInt8} {e : ByteArray} (h : takePar l = some (e, r)) : r.length + 32 ≤ l.length := by
  unfold takePar at h
  split at h
  · cases h
  · rename_i p r1 h1
    injection h with h
    injection h with _ h
    subst h
    have a1 := (takeB_less h1).2
    omega
def TreeMany (B gx gr g N : Nat) (l0 : List UInt8) (b0 : Bool) (L : Nat) (w : World) (i : Value) (wr : World) : Prop :=
  ∃ (n : Nat) (v : List Ent) (l : List UInt8) (b : Bool), i = .int .i64 n ∧ TreeSt wr B gx gr g v l b ∧ Hid (Sofar takeEnt N l0 b0 v n l b) ∧ Below B w wr ∧ n ≤ 4611686018427387903 ∧ v.length ≤ L + 1 ∧ (b = false → v.length * 32 + l.length ≤ L) ∧ Hid (∀ p ∈ v, True)
def ComMany (B gx gr g : Nat) (tr wh : ByteArray) (st : Int) (te : ByteArray) (N : Nat) (l0 : List UInt8) (b0 : Bool) (L : Nat) (w : World) (i : Value) (wr : World) : Prop :=
  ∃ (n : Nat) (v : List ByteArray) (l : List UInt8) (b : Bool), i = .int .i64 n ∧ ComSt wr B gx gr g tr wh st te v l b ∧ Hid (Sofar takePar N l0 b0 v n l b) ∧ Below B w wr ∧ n ≤ 4611686018427387903 ∧ v.length ≤ L + 1 ∧ (b = false → v.length * 32 + l.length ≤ L) ∧ Hid (∀ p ∈ v, p.size ≤ 32)

set_option maxRecDepth 100000 in
set_option maxHeartbeats 4000000 in
theorem manyTree_calls (B gx gr g : Nat) (l : List UInt8) (b : Bool) (w : World) (h : TreeSt w B gx gr g [] l b) (hl : l.length ≤ 140737488351232) :
    Calls Tryz.prog 230 #[.pointer (some ⟨g, 0, none⟩), .func (.func 231) #[] #[.pointer (some ⟨gx, 0, none⟩), .pointer (some ⟨gr, 0, none⟩)]] w fun e w' =>
      ∃ (v : List Ent) (l' : List UInt8) (b' : Bool), e = .returned (.tuple #[]) ∧ TreeSt w' B gx gr g v l' b' ∧ Hid (Took (manyT takeEnt l) b v l' b') ∧ Below B w w' ∧ v.length ≤ l.length + 1 ∧ Hid (∀ p ∈ v, True) := by
  obtain ⟨A, c, hX, hE, hG, hR, hBx, hBr, hBw⟩ := id h
  obtain ⟨_, hBg⟩ := hR.lt
  go_enter Tryz.func230, Tryz.ntmps230
  go_wp2_with fail
  refine (rdNum_calls B g l b w hR).mono ?_
  rintro e w1 ⟨N, l1, b1, rfl, h1, t1, g1, q1, hN⟩
  unfold mkN
  have hs1 := h.calm h1 g1
  have hb1 : Below B w w1 := below_of_grown g1 hBg hBw
  clear h hX hE hG hR h1 g1
  go_wp2_with fail
  go_loopw [4] (fun i wr => TreeMany B gx gr g N l1 b1 l.length w i wr) (fun i _ => (intOf i).toNat)
  case atStart => exact ⟨N, [], l1, b1, rfl, hs1, Lib.hid (Sofar.start _ _ _ _), hb1, hN, by simp, fun _ => by simp; omega, Lib.hid (by simp)⟩
  case round =>
    clear hs1 hb1
    obtain ⟨n, v, l2, b2, rfl, hs, hT, hb, hn, hv1, hv2, hv3⟩ := hrel
    obtain ⟨A2, c2, hX2, hE2, hG2, hR2, _, _, hBw2⟩ := id hs
    obtain ⟨Ar, cr, hRb, _⟩ := id hR2
    have z1 : wr.cell? ⟨g, 1, none⟩ = some (.int .i64 (errB b2)) := by rw [hRb.cell]; rfl
    clear hX2 hE2 hG2 hR2 hRb
    by_cases h0 : 0 < n
    · have d0 : decide ((n : Int) > 0) = true := decide_eq_true (by omega)
      have d0' : decide ((0 : Int) < (n : Int)) = true := decide_eq_true (by omega)
      cases b2 with
      | true =>
        have z2 : wr.cell? ⟨g, 1, none⟩ = some (.int .i64 2) := z1
        clear z1
        go_wp2_with fail
        go_end0
        exact ⟨v, l2, true, rfl, hs, Lib.hid (took_many t1.out (hT.out.done (.inr rfl))), hb, hv1, hv3⟩
      | false =>
        have z2 : wr.cell? ⟨g, 1, none⟩ = some (.int .i64 0) := z1
        clear z1
        have f1 : IntKind.i64.wrap ((n : Int) - 1) = (n : Int) - 1 := IntWalk.i64_in _ (by omega)
        have hv2' := hv2 rfl
        go_wp2_with ((go_at_call 231; refine (entry_calls B gx gr g v l2 false _ hs (by omega)).mono ?_; rintro e w3 ⟨x, l3, b3, rfl, hs3, t3, hb3, q3⟩))
        have hm : n = (n - 1) + 1 := by omega
        have hT2 := hT.out
        rw [hm] at hT2
        refine ⟨⟨n - 1, v ++ [x], l3, b3, by go_num, hs3, Lib.hid (hT2.step t3.out), hb.trans hb3, by omega, by simp; omega, fun hb0 => ?_, Lib.hid ?_⟩, by simp [intOf]; omega⟩
        · have h3 := takeEnt_less (t3.out.good hb0).2
          simp only [List.length_append, List.length_singleton]
          omega
        · intro p hp
          rcases List.mem_append.1 hp with hp | hp
          · exact hv3.out p hp
          · obtain rfl := List.mem_singleton.1 hp
            trivial
    · have d0 : decide ((n : Int) > 0) = false := decide_eq_false (by omega)
      have d0' : decide ((0 : Int) < (n : Int)) = false := decide_eq_false (by omega)
      go_wp2_with fail
      go_end0
      exact ⟨v, l2, b2, rfl, hs, Lib.hid (took_many t1.out (hT.out.done (.inl (by omega)))), hb, hv1, hv3⟩

set_option maxRecDepth 100000 in
set_option maxHeartbeats 4000000 in
theorem manyCom_calls (B gx gr g : Nat) (tr wh : ByteArray) (st : Int) (te : ByteArray) (l : List UInt8) (b : Bool) (w : World) (h : ComSt w B gx gr g tr wh st te [] l b) (hl : l.length ≤ 140737488351232) :
    Calls Tryz.prog 230 #[.pointer (some ⟨g, 0, none⟩), .func (.func 233) #[] #[.pointer (some ⟨gx, 0, none⟩), .pointer (some ⟨gr, 0, none⟩)]] w fun e w' =>
      ∃ (v : List ByteArray) (l' : List UInt8) (b' : Bool), e = .returned (.tuple #[]) ∧ ComSt w' B gx gr g tr wh st te v l' b' ∧ Hid (Took (manyT takePar l) b v l' b') ∧ Below B w w' ∧ v.length ≤ l.length + 1 ∧ Hid (∀ p ∈ v, p.size ≤ 32) := by
  obtain ⟨A, c, hX, hE, hG, hR, hBx, hBr, hBw⟩ := id h
  obtain ⟨_, hBg⟩ := hR.lt
  go_enter Tryz.func230, Tryz.ntmps230
  go_wp2_with fail
  refine (rdNum_calls B g l b w hR).mono ?_
  rintro e w1 ⟨N, l1, b1, rfl, h1, t1, g1, q1, hN⟩
  unfold mkN
  have hs1 := h.calm h1 g1
  have hb1 : Below B w w1 := below_of_grown g1 hBg hBw
  clear h hX hE hG hR h1 g1
  go_wp2_with fail
  go_loopw [4] (fun i wr => ComMany B gx gr g tr wh st te N l1 b1 l.length w i wr) (fun i _ => (intOf i).toNat)
  case atStart => exact ⟨N, [], l1, b1, rfl, hs1, Lib.hid (Sofar.start _ _ _ _), hb1, hN, by simp, fun _ => by simp; omega, Lib.hid (by simp)⟩
  case round =>
    clear hs1 hb1
    obtain ⟨n, v, l2, b2, rfl, hs, hT, hb, hn, hv1, hv2, hv3⟩ := hrel
    obtain ⟨A2, c2, hX2, hE2, hG2, hR2, _, _, hBw2⟩ := id hs
    obtain ⟨Ar, cr, hRb, _⟩ := id hR2
    have z1 : wr.cell? ⟨g, 1, none⟩ = some (.int .i64 (errB b2)) := by rw [hRb.cell]; rfl
    clear hX2 hE2 hG2 hR2 hRb
    by_cases h0 : 0 < n
    · have d0 : decide ((n : Int) > 0) = true := decide_eq_true (by omega)
      have d0' : decide ((0 : Int) < (n : Int)) = true := decide_eq_true (by omega)
      cases b2 with
      | true =>
        have z2 : wr.cell? ⟨g, 1, none⟩ = some (.int .i64 2) := z1
        clear z1
        go_wp2_with fail
        go_end0
        exact ⟨v, l2, true, rfl, hs, Lib.hid (took_many t1.out (hT.out.done (.inr rfl))), hb, hv1, hv3⟩
      | false =>
        have z2 : wr.cell? ⟨g, 1, none⟩ = some (.int .i64 0) := z1
        clear z1
        have f1 : IntKind.i64.wrap ((n : Int) - 1) = (n : Int) - 1 := IntWalk.i64_in _ (by omega)
        have hv2' := hv2 rfl
        go_wp2_with ((go_at_call 233; refine (parent_calls B gx gr g tr wh st te v l2 false _ hs (by omega)).mono ?_; rintro e w3 ⟨x, l3, b3, rfl, hs3, t3, hb3, q3, q4⟩))
        have hm : n = (n - 1) + 1 := by omega
        have hT2 := hT.out
        rw [hm] at hT2
        refine ⟨⟨n - 1, v ++ [x], l3, b3, by go_num, hs3, Lib.hid (hT2.step t3.out), hb.trans hb3, by omega, by simp; omega, fun hb0 => ?_, Lib.hid ?_⟩, by simp [intOf]; omega⟩
        · have h3 := takePar_less (t3.out.good hb0).2
          simp only [List.length_append, List.length_singleton]
          omega
        · intro p hp
          rcases List.mem_append.1 hp with hp | hp
          · exact hv3.out p hp
          · obtain rfl := List.mem_singleton.1 hp
            exact q4
    · have d0 : decide ((n : Int) > 0) = false := decide_eq_false (by omega)
      have d0' : decide ((0 : Int) < (n : Int)) = false := decide_eq_false (by omega)
      go_wp2_with fail
      go_end0
      exact ⟨v, l2, b2, rfl, hs, Lib.hid (took_many t1.out (hT.out.done (.inl (by omega)))), hb, hv1, hv3⟩

end Go.Proofs.YtecpbcmpncgokaaGreat

namespace Go.Dol
open Go.RowKit
/-- What reads, in memory that the call made. -/
def RdN (w : World) (base size : Nat) (A : Option Addr) (n : Nat) (xs : List Value) : Prop := Rd w w.heap.size size A n xs ∧ (0 < n → ∀ k, segBlock A = some k → base ≤ k)
theorem RdN.own {w : World} {base size : Nat} {e : TypeId} {A : Option Addr} {n c : Nat} {xs : List Value} (h : w.ownsRow base e size (.slice A n c) n xs) : RdN w base size A n xs := by
  refine ⟨Rd.of_own h, fun hn k hk => ?_⟩
  rcases h.2 with ⟨h1, _⟩ | ⟨g, cap, cur, h1, h2, _⟩
  · injection h1 with _ h1
    omega
  · injection h1 with hA _ _
    rw [hA] at hk
    injection hk with hk
    have e2 : g = k := hk
    omega
theorem RdN.nil {w : World} {base size : Nat} {A : Option Addr} : RdN w base size A 0 [] := ⟨Rd.nil, fun h => absurd h (by decide)⟩
theorem RdN.below {w w' : World} {base size : Nat} {A : Option Addr} {n : Nat} {xs : List Value} (h : RdN w base size A n xs) (hb : Below w.heap.size w w') : RdN w' base size A n xs := ⟨(h.1.below hb).more hb.size, h.2⟩
theorem RdN.lower {w : World} {base base' size : Nat} {A : Option Addr} {n : Nat} {xs : List Value} (h : RdN w base size A n xs) (hb : base' ≤ base) : RdN w base' size A n xs := ⟨h.1, fun hn k hk => Nat.le_trans hb (h.2 hn k hk)⟩
/-- A write below. -/
theorem RdN.apart {w w' : World} {base size k : Nat} {A : Option Addr} {n : Nat} {xs : List Value} (h : RdN w base size A n xs) (hg : w.grownBy w' (some k)) (hk : k < base) : RdN w' base size A n xs := by
  refine ⟨⟨h.1.len, fun hn => ?_⟩, h.2⟩
  obtain ⟨b, off, e, hb, hc⟩ := h.1.at_ hn
  have h2 := h.2 hn b (by rw [e]; rfl)
  exact ⟨b, off, e, Nat.lt_of_lt_of_le hb hg.size, fun j u hu => (World.cell?_of_block (hg.block b hb (fun e2 => by injection e2 with e2; omega))).trans (hc j u hu)⟩
end Go.Dol
namespace Go.Proofs.YtecpbcmpncgokaaGreat
open Go.RowKit Go.Dol
set_option linter.unusedVariables false

theorem mkf (fn : Fn) (first cap : Array Value) (w : World) : (Instr.makeFunc fn first cap).run Tryz.prog w = .ok (.func fn first cap) w := rfl
theorem conv_sb (v : List UInt8) (w : World) (hl : v.length ≤ 140737488355328) : ∃ A c w', (convert 9 36 (.string ⟨v.toArray⟩)).run Tryz.prog w = .ok (.slice A v.length c) w' ∧ RdN w' w.heap.size 1 A v.length (bc v) ∧ Below w.heap.size w w' ∧ v.length ≤ c ∧ c ≤ maxLen := by
  have hs : (⟨v.toArray⟩ : ByteArray).size = v.length := by simp [ByteArray.size]
  obtain ⟨A, c, w', h1, h2, h3, h4, h5⟩ := run_conv_sb (P := Tryz.prog) w 9 36 5 ⟨v.toArray⟩ Tryz.underlying9 Tryz.underlying36 Tryz.underlying5 (by rw [hs]; exact hl)
  rw [hs] at h1 h2 h4
  refine ⟨A, c, w', h1, ⟨h2, fun hn k hk => ?_⟩, h3, h4, h5⟩
  have h6 := run_bytes_of_string (P := Tryz.prog) w 9 36 5 ⟨v.toArray⟩ Tryz.underlying9 Tryz.underlying36 Tryz.underlying5
  rw [h1] at h6
  injection h6 with h6 _
  injection h6 with h6 _ _
  rw [h6] at hk
  injection hk with hk
  have e2 : w.heap.size = k := hk
  omega

/-- What 'body' hands back: a body of values mk o, the reader as it is, and what was read. -/
def RetBody (p : Option Go.Dol.Obj) (B g : Nat) (w : World) (mk : Go.Dol.Obj → Value → Value → Value → Value) (nm : Go.Dol.Obj → Go.Dol.Obj) (e : Ending) (w' : World) : Prop :=
  ∃ (o : Go.Dol.Obj) (Ad : Option Addr) (cd : Nat) (Ae : Option Addr) (ce : Nat) (Ap : Option Addr) (cp : Nat) (l' : List UInt8) (b' : Bool), e = .returned (mk o (.slice Ad o.data.length cd) (.slice Ae o.ents.length ce) (.slice Ap o.pars.length cp)) ∧
    RdN w' B 1 Ad o.data.length (bc o.data) ∧ RdN w' B 3 Ae o.ents.length (ec o.ents) ∧ RdN w' B 1 Ap o.pars.length (pc o.pars) ∧ Rs w' B g l' b' ∧ Hid (Parsed p o b' ∧ o = nm o) ∧ Below B w w' ∧ o.ents.length ≤ 140737488351233 ∧ o.pars.length ≤ 140737488351233 ∧ Hid (∀ q ∈ o.pars, q.size ≤ maxLen)
set_option maxRecDepth 100000 in
set_option maxHeartbeats 4000000 in
theorem body1_calls (B g : Nat) (l : List UInt8) (w : World) (h : Rs w B g l false) (hBw : B ≤ w.heap.size) (hl : l.length ≤ 140737488351232) :
    Calls Tryz.prog 160 #[.pointer (some ⟨g, 0, none⟩), .int .i64 1] w (RetBody (parseK 1 l) B g w (fun o vd ve vp => .iface 215 (.agg #[vd])) fun o => { Obj.zero with kind := 1, data := o.data }) := by
  obtain ⟨hgl, hBg⟩ := h.lt
  have hb0 : Below w.heap.size w (w.alloc (.cells #[.pointer (some ⟨g, 0, none⟩)] 222)) := (Below.refl _ _).alloc (Nat.le_refl _) _
  have h0 := h.below hb0
  obtain ⟨A, c, hRb, hF, hc, hcm, _⟩ := id h
  have hG := Blk.new w 222 [.pointer (some ⟨g, 0, none⟩)]
  have n2 := blk_apart hG (hRb.below hb0 hRb.lt) (by decide)
  have y0 : (w.alloc (.cells #[.pointer (some ⟨g, 0, none⟩)] 222)).cell? ⟨w.heap.size, 0, none⟩ = some (.pointer (some ⟨g, 0, none⟩)) := by rw [hG.cell]; rfl
  have r0 : w.cell? ⟨g, 0, none⟩ = some (.slice A l.length c) := by rw [hRb.cell]; rfl
  go_enter Tryz.func160, Tryz.ntmps160
  go_wp2_with fail
  refine wp_region_held_drew (S := fun w' => w'.cell? ⟨w.heap.size, 0, none⟩ = some (.pointer (some ⟨g, 0, none⟩))) (by kernel_rfl) y0 (fun hHeld => ?_)
  refine wpAnyH_take (i := 0) (oi := _) (v := .pointer (some ⟨g, 0, none⟩)) rfl (by kernel_rfl) (by kernel_rfl) (by kernel_rfl) (fun _ _ _ h => h) (Or.inl ⟨by rfl, fun w' hS => ?_⟩) hHeld ?_
  · obtain s0 := hS
    go_simp
  try simp only [Act.put, List.setIfInBounds_toArray]
  refine wpAnyH_take (i := 1) (oi := _) (v := .pointer (some ⟨g, 0, none⟩)) rfl (by kernel_rfl) (by kernel_rfl) (by kernel_rfl) (fun _ _ _ h => h) (Or.inl ⟨by rfl, fun w' hS => ?_⟩) hHeld ?_
  · obtain s0 := hS
    go_simp
  try simp only [Act.put]
  refine wpAnyH_take (i := 2) (oi := _) (v := .pointer (some ⟨g, 0, none⟩)) rfl (by kernel_rfl) (by kernel_rfl) (by kernel_rfl) (fun _ _ _ h => h) (Or.inl ⟨by rfl, fun w' hS => ?_⟩) hHeld ?_
  · obtain s0 := hS
    go_simp
  try simp only [Act.put]
  refine wpAnyH_take (i := 3) (oi := _) (v := .pointer (some ⟨g, 0, none⟩)) rfl (by kernel_rfl) (by kernel_rfl) (by kernel_rfl) (fun _ _ _ h => h) (Or.inl ⟨by rfl, fun w' hS => ?_⟩) hHeld ?_
  · obtain s0 := hS
    go_simp
  try simp only [Act.put]
  refine wpAnyH_ready (rs := [4]) (by kernel_rfl) (by simp) (AllReadyH.cons (o := _) rfl (fun K hK => ?_) AllReadyH.nil)
  go_simp
  refine hK.out _ _ y0 (fun hHeld => ?_)
  clear hK K
  try simp only [Act.put, List.setIfInBounds_toArray, List.set_cons_zero, List.set_cons_succ]
  refine wpAnyH_take (i := 5) (oi := _) (v := .int .i64 l.length) rfl (by kernel_rfl) (by kernel_rfl) (by kernel_rfl) (fun _ _ _ h => h) (Or.inl ⟨by rfl, fun w' hS => ?_⟩) hHeld ?_
  · obtain s0 := hS
    go_simp
  try simp only [Act.put, List.setIfInBounds_toArray]
  refine wpAnyH_ready (rs := [6]) (by kernel_rfl) (by simp) (AllReadyH.cons (o := _) rfl (fun K hK => ?_) AllReadyH.nil)
  go_simp
  refine (rdBytes_calls B g l.length _ rfl l false (w.alloc (.cells #[.pointer (some ⟨g, 0, none⟩)] 222)).drew h0.drew).mono ?_
  rintro e w1 ⟨v, l1, b1, rfl, h1, t1, g1, q1, hv⟩
  have hG1 := hG.drew.grown g1 n2
  have y1 : w1.cell? ⟨w.heap.size, 0, none⟩ = some (.pointer (some ⟨g, 0, none⟩)) := by rw [hG1.cell]; rfl
  unfold mkS
  refine hK.out _ _ y1 (fun hHeld => ?_)
  clear hK K
  try simp only [Act.put, List.setIfInBounds_toArray, List.set_cons_zero, List.set_cons_succ]
  obtain ⟨Ad, cd, w2, hcv, hRd, hb2, _, _⟩ := conv_sb v w1 (by omega)
  have y2 : w2.cell? ⟨w.heap.size, 0, none⟩ = some (.pointer (some ⟨g, 0, none⟩)) := (hb2.cell (p := ⟨w.heap.size, 0, none⟩) hG1.lt).trans y1
  refine wpAnyH_ready (rs := [7]) (by kernel_rfl) (by simp) (AllReadyH.cons (o := _) rfl (fun K hK => ?_) AllReadyH.nil)
  go_simp
  refine hK.out _ _ y2 (fun hHeld => ?_)
  clear hK K
  try simp only [Act.put, List.setIfInBounds_toArray, List.set_cons_zero, List.set_cons_succ]
  refine wpAnyH_take (i := 8) (oi := _) (v := .agg #[.slice Ad v.length cd]) rfl (by kernel_rfl) (by kernel_rfl) (by kernel_rfl) (fun _ _ _ h => h) (Or.inl ⟨by rfl, fun w' hS => ?_⟩) hHeld ?_
  · obtain s0 := hS
    go_simp
  try simp only [Act.put, List.setIfInBounds_toArray]
  refine wpAnyH_take (i := 9) (oi := _) (v := .iface 215 (.agg #[.slice Ad v.length cd])) rfl (by kernel_rfl) (by kernel_rfl) (by kernel_rfl) (fun _ _ _ h => h) (Or.inl ⟨by rfl, fun w' hS => ?_⟩) hHeld ?_
  · obtain s0 := hS
    go_simp
  try simp only [Act.put]
  refine wpAnyH_take (i := 10) (oi := _) (v := .iface 215 (.agg #[.slice Ad v.length cd])) rfl (by kernel_rfl) (by kernel_rfl) (by kernel_rfl) (fun _ _ _ h => h) (Or.inl ⟨by rfl, fun w' hS => ?_⟩) hHeld ?_
  · obtain s0 := hS
    go_simp
  try simp only [Act.put]
  refine wpAnyH_done (by kernel_rfl) ?_ _
  have hT := t1.out
  have htb : takeB l.length l = some (l, []) := by
    unfold takeB
    rw [if_neg (by omega), List.take_length, List.drop_length]
  rw [htb] at hT
  have hP : Hid (Parsed (parseK 1 l) { Obj.zero with kind := 1, data := v } b1) := by
    rcases hT with ⟨_, h | h⟩ | ⟨h1, _, h2⟩
    · cases h
    · cases h
    · injection h2 with h2
      injection h2 with h2 _
      exact .inr ⟨h1, by rw [parseK1, h2]⟩
  have s1 : (w.alloc (.cells #[.pointer (some ⟨g, 0, none⟩)] 222)).heap.size ≤ w1.heap.size := g1.size
  have s0 := hb0.size
  have hbe : Below B w w2 := (hb0.mono hBw).trans ((((Below.refl B (w.alloc (.cells #[.pointer (some ⟨g, 0, none⟩)] 222))).drew).trans (below_of_grown g1 hBg (Nat.le_trans hBw s0) : Below B (w.alloc (.cells #[.pointer (some ⟨g, 0, none⟩)] 222)).drew w1)).trans (hb2.mono (by omega)))
  clear hcv hT htb
  go_wp2_with fail
  go_ret
  exact ⟨{ Obj.zero with kind := 1, data := v }, Ad, cd, none, 0, none, 0, l1, b1, rfl, hRd.lower (by omega), RdN.nil, RdN.nil, h1.below hb2, Lib.hid ⟨hP.out, rfl⟩, hbe, by simp [Obj.zero], by simp [Obj.zero], Lib.hid (by simp [Obj.zero])⟩

set_option maxRecDepth 100000 in
set_option maxHeartbeats 4000000 in
theorem body2_calls (B g : Nat) (l : List UInt8) (w : World) (h : Rs w B g l false) (hBw : B ≤ w.heap.size) (hl : l.length ≤ 140737488351232) :
    Calls Tryz.prog 160 #[.pointer (some ⟨g, 0, none⟩), .int .i64 2] w (RetBody (parseK 2 l) B g w (fun o vd ve vp => .iface 217 (.agg #[ve])) fun o => { Obj.zero with kind := 2, ents := o.ents }) := by
  obtain ⟨hgl, hBg⟩ := h.lt
  have hb0 : Below w.heap.size w (w.alloc (.cells #[.pointer (some ⟨g, 0, none⟩)] 222)) := (Below.refl _ _).alloc (Nat.le_refl _) _
  have h0 := h.below hb0
  obtain ⟨A, c, hRb, hF, hc, hcm, _⟩ := id h
  have hG := Blk.new w 222 [.pointer (some ⟨g, 0, none⟩)]
  have n2 := blk_apart hG (hRb.below hb0 hRb.lt) (by decide)
  have s0 : (w.alloc (.cells #[.pointer (some ⟨g, 0, none⟩)] 222)).heap.size = w.heap.size + 1 := by simp
  have hmf := mkf
  have hb1 : Below w.heap.size w ((w.alloc (.cells #[.pointer (some ⟨g, 0, none⟩)] 222)).alloc (.cells #[.slice none 0 0] 217)) := hb0.alloc hb0.size _
  have h1 := h.below hb1
  have hG1 := hG.alloc (.cells #[.slice none 0 0] 217)
  have hX1 := Blk.new (w.alloc (.cells #[.pointer (some ⟨g, 0, none⟩)] 222)) 217 [.slice none 0 0]
  rw [s0] at hX1
  have hst : TreeSt ((w.alloc (.cells #[.pointer (some ⟨g, 0, none⟩)] 222)).alloc (.cells #[.slice none 0 0] 217)) B (w.heap.size + 1) w.heap.size g [] l false := ⟨none, 0, hX1, World.ownsRow_nil _ _ _ _, hG1, h1, by omega, hBw, Nat.le_trans hBw hb1.size⟩
  go_enter Tryz.func160, Tryz.ntmps160
  go_wp2_with fail
  refine (manyTree_calls B (w.heap.size + 1) w.heap.size g l false _ hst hl).mono ?_
  rintro e w3 ⟨v, l3, b3, rfl, hs3, t3, hb3, hv, _⟩
  obtain ⟨A3, c3, hX3, hE3, hG3, hR3, _, _, _⟩ := id hs3
  have z3 : w3.cell? ⟨w.heap.size + 1, 0, none⟩ = some (.slice A3 v.length c3) := by rw [hX3.cell]; rfl
  have hbe : Below B w w3 := (hb1.mono hBw).trans hb3
  have hP : Hid (Parsed (parseK 2 l) { Obj.zero with kind := 2, ents := v } b3) := Lib.hid (by rw [parseK2]; exact parsed_tree t3.out)
  go_wp2_with fail
  go_ret
  exact ⟨{ Obj.zero with kind := 2, ents := v }, none, 0, A3, c3, none, 0, l3, b3, rfl, RdN.nil, RdN.own hE3, RdN.nil, hR3, Lib.hid ⟨hP.out, rfl⟩, hbe, by show v.length ≤ _; omega, by simp [Obj.zero], Lib.hid (by simp [Obj.zero])⟩

set_option maxRecDepth 100000 in
set_option maxHeartbeats 4000000 in
theorem body3_calls (B g : Nat) (l : List UInt8) (w : World) (h : Rs w B g l false) (hBw : B ≤ w.heap.size) (hl : l.length ≤ 140737488351232) :
    Calls Tryz.prog 160 #[.pointer (some ⟨g, 0, none⟩), .int .i64 3] w (RetBody (parseK 3 l) B g w (fun o vd ve vp => .iface 219 (.agg #[.string o.tree, vp, .string o.who, .int .i64 o.stamp, .string o.text])) fun o => { Obj.zero with kind := 3, tree := o.tree, pars := o.pars, who := o.who, stamp := o.stamp, text := o.text }) := by
  obtain ⟨hgl, hBg⟩ := h.lt
  have hb0 : Below w.heap.size w (w.alloc (.cells #[.pointer (some ⟨g, 0, none⟩)] 222)) := (Below.refl _ _).alloc (Nat.le_refl _) _
  have h0 := h.below hb0
  obtain ⟨A, c, hRb, hF, hc, hcm, _⟩ := id h
  have hG := Blk.new w 222 [.pointer (some ⟨g, 0, none⟩)]
  have n2 := blk_apart hG (hRb.below hb0 hRb.lt) (by decide)
  have s0 : (w.alloc (.cells #[.pointer (some ⟨g, 0, none⟩)] 222)).heap.size = w.heap.size + 1 := by simp
  have hmf := mkf
  go_enter Tryz.func160, Tryz.ntmps160
  go_wp2_with fail
  refine (rdBytes_calls B g 32 32 rfl l false _ h0).mono ?_
  rintro e w1 ⟨t, l1, b1, rfl, h1, t1, g1, q1, _⟩
  have hG1 := hG.grown g1 n2
  have hs1 : w.heap.size + 1 ≤ w1.heap.size := by have := g1.size; omega
  have y1 : w1.cell? ⟨w.heap.size, 0, none⟩ = some (.pointer (some ⟨g, 0, none⟩)) := by rw [hG1.cell]; rfl
  have hn1 : w.heap.size ≠ w1.heap.size := by omega
  have hn2 : ¬ w1.heap.size = w.heap.size := by omega
  have hn3 : w.heap.size < w1.heap.size := by omega
  unfold mkS
  have hb2 : Below w1.heap.size w1 (w1.alloc (.cells #[.string ⟨t.toArray⟩, .slice none 0 0, .string ⟨#[]⟩, .int .i64 0, .string ⟨#[]⟩] 219)) := (Below.refl _ _).alloc (Nat.le_refl _) _
  have hG2 := hG1.alloc (.cells #[.string ⟨t.toArray⟩, .slice none 0 0, .string ⟨#[]⟩, .int .i64 0, .string ⟨#[]⟩] 219)
  have hX2 := Blk.new w1 219 [.string ⟨t.toArray⟩, .slice none 0 0, .string ⟨#[]⟩, .int .i64 0, .string ⟨#[]⟩]
  have hst : ComSt (w1.alloc (.cells #[.string ⟨t.toArray⟩, .slice none 0 0, .string ⟨#[]⟩, .int .i64 0, .string ⟨#[]⟩] 219)) B w1.heap.size w.heap.size g ⟨t.toArray⟩ ⟨#[]⟩ 0 ⟨#[]⟩ [] l1 b1 := ⟨none, 0, hX2, World.ownsRow_nil _ _ _ _, hG2, h1.below hb2, by omega, hBw, Nat.le_trans (by omega) hb2.size⟩
  go_wp2_with fail
  refine (manyCom_calls B w1.heap.size w.heap.size g ⟨t.toArray⟩ ⟨#[]⟩ 0 ⟨#[]⟩ l1 b1 _ hst (by omega)).mono ?_
  rintro e w3 ⟨v, l3, b3, rfl, hs3, t3, hb3, hv, hv3⟩
  obtain ⟨A3, c3, hX3, hE3, hG3, hR3, _, _, hB3⟩ := id hs3
  obtain ⟨Ar, cr, hRb3, _⟩ := id hR3
  have y3 : w3.cell? ⟨w.heap.size, 0, none⟩ = some (.pointer (some ⟨g, 0, none⟩)) := by rw [hG3.cell]; rfl
  go_wp2_with fail
  refine (rdTold_calls B g l3 b3 w3 hR3).mono ?_
  rintro e w4 ⟨v4, l4, b4, rfl, h4, t4, g4⟩
  have n4 := blk_apart hX3 hRb3 (by decide)
  have hX4 := hX3.grown g4 n4
  have hE4 := own_other hE3 hRb3 (by decide) g4
  obtain ⟨k0, k1, k2, k3, k4⟩ := com_cells hX4
  have f2 := hX4.free 2
  have f3 := hX4.free 3
  have f4 := hX4.free 4
  unfold mkT
  go_wp2_with fail
  have hg5 : w4.grownBy (((w4.setCell ⟨w1.heap.size, 2, none⟩ (.string v4.1)).setCell ⟨w1.heap.size, 3, none⟩ (.int .i64 v4.2.1)).setCell ⟨w1.heap.size, 4, none⟩ (.string v4.2.2)) (some w1.heap.size) := grown_setCell (grown_setCell (grown_setCell (World.grownBy.refl w4 _) 2 _) 3 _) 4 _
  have hE5 := own_other hE4 hX4 (by decide) hg5
  have h5 := h4.keep hg5 n4.symm (Other.blk hX4 (by decide) (by omega))
  have s3 := hb3.size
  have hbe : Below B w _ := (((hb0.mono hBw).trans (below_of_grown g1 hBg (by omega))).trans ((hb2.mono (by omega)).trans hb3)).trans ((below_of_grown g4 hBg hB3).trans (below_of_grown hg5 (by omega) (Nat.le_trans hB3 g4.size)))
  have hP : Hid (Parsed (parseK 3 l) { Obj.zero with kind := 3, tree := ⟨t.toArray⟩, pars := v, who := v4.1, stamp := v4.2.1, text := v4.2.2 } b4) := Lib.hid (by rw [parseK3]; exact parsed_commit t1.out t3.out t4.out)
  go_ret
  exact ⟨{ Obj.zero with kind := 3, tree := ⟨t.toArray⟩, pars := v, who := v4.1, stamp := v4.2.1, text := v4.2.2 }, none, 0, none, 0, A3, c3, l4, b4, rfl, RdN.nil, RdN.nil, RdN.own hE5, h5, Lib.hid ⟨hP.out, rfl⟩, hbe, by simp [Obj.zero], by show v.length ≤ _; omega, Lib.hid (fun q hq => by have := hv3.out q hq; unfold maxLen; omega)⟩

set_option maxRecDepth 100000 in
set_option maxHeartbeats 4000000 in
theorem body4_calls (B g : Nat) (l : List UInt8) (w : World) (h : Rs w B g l false) (hBw : B ≤ w.heap.size) (hl : l.length ≤ 140737488351232) :
    Calls Tryz.prog 160 #[.pointer (some ⟨g, 0, none⟩), .int .i64 4] w (RetBody (parseK 4 l) B g w (fun o vd ve vp => .iface 221 (.agg #[.string o.target, .string o.name, .string o.who, .int .i64 o.stamp, .string o.text])) fun o => { Obj.zero with kind := 4, target := o.target, name := o.name, who := o.who, stamp := o.stamp, text := o.text }) := by
  obtain ⟨hgl, hBg⟩ := h.lt
  have hb0 : Below w.heap.size w (w.alloc (.cells #[.pointer (some ⟨g, 0, none⟩)] 222)) := (Below.refl _ _).alloc (Nat.le_refl _) _
  have h0 := h.below hb0
  obtain ⟨A, c, hRb, hF, hc, hcm, _⟩ := id h
  have hG := Blk.new w 222 [.pointer (some ⟨g, 0, none⟩)]
  have n2 := blk_apart hG (hRb.below hb0 hRb.lt) (by decide)
  have s0 : (w.alloc (.cells #[.pointer (some ⟨g, 0, none⟩)] 222)).heap.size = w.heap.size + 1 := by simp
  have y0 : (w.alloc (.cells #[.pointer (some ⟨g, 0, none⟩)] 222)).cell? ⟨w.heap.size, 0, none⟩ = some (.pointer (some ⟨g, 0, none⟩)) := by rw [hG.cell]; rfl
  go_enter Tryz.func160, Tryz.ntmps160
  go_wp2_with fail
  refine wp_region_held_drew (S := fun w' => w'.cell? ⟨w.heap.size, 0, none⟩ = some (.pointer (some ⟨g, 0, none⟩))) (by kernel_rfl) y0 (fun hHeld => ?_)
  refine wpAnyH_take (i := 0) (oi := _) (v := .pointer (some ⟨g, 0, none⟩)) rfl (by kernel_rfl) (by kernel_rfl) (by kernel_rfl) (fun _ _ _ h => h) (Or.inl ⟨by rfl, fun w' hS => ?_⟩) hHeld ?_
  · obtain s0 := hS
    go_simp
  try simp only [Act.put, List.setIfInBounds_toArray]
  refine wpAnyH_take (i := 2) (oi := _) (v := .pointer (some ⟨g, 0, none⟩)) rfl (by kernel_rfl) (by kernel_rfl) (by kernel_rfl) (fun _ _ _ h => h) (Or.inl ⟨by rfl, fun w' hS => ?_⟩) hHeld ?_
  · obtain s0 := hS
    go_simp
  try simp only [Act.put]
  refine wpAnyH_take (i := 4) (oi := _) (v := .pointer (some ⟨g, 0, none⟩)) rfl (by kernel_rfl) (by kernel_rfl) (by kernel_rfl) (fun _ _ _ h => h) (Or.inl ⟨by rfl, fun w' hS => ?_⟩) hHeld ?_
  · obtain s0 := hS
    go_simp
  try simp only [Act.put]
  refine wpAnyH_ready (rs := [1]) (by kernel_rfl) (by simp) (AllReadyH.cons (o := _) rfl (fun K hK => ?_) AllReadyH.nil)
  go_simp
  refine (rdBytes_calls B g 32 32 rfl l false _ h0.drew).mono ?_
  rintro e w1 ⟨t, l1, b1, rfl, h1, t1, g1, q1, _⟩
  have hG1 := hG.drew.grown g1 n2
  have y1 : w1.cell? ⟨w.heap.size, 0, none⟩ = some (.pointer (some ⟨g, 0, none⟩)) := by rw [hG1.cell]; rfl
  unfold mkS
  refine hK.out _ _ y1 (fun hHeld => ?_)
  clear hK K
  try simp only [Act.put, List.setIfInBounds_toArray, List.set_cons_zero, List.set_cons_succ]
  refine wpAnyH_ready (rs := [3]) (by kernel_rfl) (by simp) (AllReadyH.cons (o := _) rfl (fun K hK => ?_) AllReadyH.nil)
  go_simp
  refine (rdText_calls B g l1 b1 w1 h1).mono ?_
  rintro e w2 ⟨nm, l2, b2, rfl, h2, t2, g2, q2, _⟩
  have hG2 := hG1.grown g2 n2
  have y2 : w2.cell? ⟨w.heap.size, 0, none⟩ = some (.pointer (some ⟨g, 0, none⟩)) := by rw [hG2.cell]; rfl
  unfold mkS
  refine hK.out _ _ y2 (fun hHeld => ?_)
  clear hK K
  try simp only [Act.put, List.setIfInBounds_toArray, List.set_cons_zero, List.set_cons_succ]
  refine wpAnyH_ready (rs := [5]) (by kernel_rfl) (by simp) (AllReadyH.cons (o := _) rfl (fun K hK => ?_) AllReadyH.nil)
  go_simp
  refine (rdTold_calls B g l2 b2 w2 h2).mono ?_
  rintro e w3 ⟨v, l3, b3, rfl, h3, t3, g3⟩
  have hG3 := hG2.grown g3 n2
  have y3 : w3.cell? ⟨w.heap.size, 0, none⟩ = some (.pointer (some ⟨g, 0, none⟩)) := by rw [hG3.cell]; rfl
  unfold mkT
  refine hK.out _ _ y3 (fun hHeld => ?_)
  clear hK K
  try simp only [Act.put, List.setIfInBounds_toArray, List.set_cons_zero, List.set_cons_succ]
  refine wpAnyH_take (i := 6) (oi := _) (v := .agg #[.string ⟨t.toArray⟩, .string ⟨nm.toArray⟩, .string v.1, .int .i64 v.2.1, .string v.2.2]) rfl (by kernel_rfl) (by kernel_rfl) (by kernel_rfl) (fun _ _ _ h => h) (Or.inl ⟨by rfl, fun w' hS => ?_⟩) hHeld ?_
  · obtain s0 := hS
    go_simp
  try simp only [Act.put, List.setIfInBounds_toArray]
  refine wpAnyH_take (i := 7) (oi := _) (v := .iface 221 (.agg #[.string ⟨t.toArray⟩, .string ⟨nm.toArray⟩, .string v.1, .int .i64 v.2.1, .string v.2.2])) rfl (by kernel_rfl) (by kernel_rfl) (by kernel_rfl) (fun _ _ _ h => h) (Or.inl ⟨by rfl, fun w' hS => ?_⟩) hHeld ?_
  · obtain s0 := hS
    go_simp
  try simp only [Act.put]
  refine wpAnyH_take (i := 8) (oi := _) (v := .iface 221 (.agg #[.string ⟨t.toArray⟩, .string ⟨nm.toArray⟩, .string v.1, .int .i64 v.2.1, .string v.2.2])) rfl (by kernel_rfl) (by kernel_rfl) (by kernel_rfl) (fun _ _ _ h => h) (Or.inl ⟨by rfl, fun w' hS => ?_⟩) hHeld ?_
  · obtain s0 := hS
    go_simp
  try simp only [Act.put]
  refine wpAnyH_done (by kernel_rfl) ?_ _
  have s1 : (w.alloc (.cells #[.pointer (some ⟨g, 0, none⟩)] 222)).heap.size ≤ w1.heap.size := g1.size
  have s2 := g2.size
  have hbe : Below B w w3 := (hb0.mono hBw).trans ((((Below.refl B _).drew).trans (below_of_grown g1 hBg (Nat.le_trans hBw hb0.size) : Below B _ w1)).trans ((below_of_grown g2 hBg (by omega)).trans (below_of_grown g3 hBg (by omega))))
  have hP : Hid (Parsed (parseK 4 l) { Obj.zero with kind := 4, target := ⟨t.toArray⟩, name := ⟨nm.toArray⟩, who := v.1, stamp := v.2.1, text := v.2.2 } b3) := Lib.hid (by rw [parseK4]; exact parsed_tag t1.out t2.out t3.out)
  go_wp2_with fail
  go_ret
  exact ⟨{ Obj.zero with kind := 4, target := ⟨t.toArray⟩, name := ⟨nm.toArray⟩, who := v.1, stamp := v.2.1, text := v.2.2 }, none, 0, none, 0, none, 0, l3, b3, rfl, RdN.nil, RdN.nil, RdN.nil, h3, Lib.hid ⟨hP.out, rfl⟩, hbe, by simp [Obj.zero], by simp [Obj.zero], Lib.hid (by simp [Obj.zero])⟩

end Go.Proofs.YtecpbcmpncgokaaGreat

namespace Go.Proofs.YtecpbcmpncgokaaGreat
open Go.RowKit Go.Dol
set_option linter.unusedVariables false

/-- What Decode hands back: an object whose parts lie in memory that it made, or that there is none. -/
def RetDec (w : World) (r : Option Go.Dol.Obj) (e : Ending) (w' : World) : Prop :=
  match r with
  | none => e = .returned (.tuple #[.agg #[.int .i64 0, .slice none 0 0, .slice none 0 0, .string ⟨#[]⟩, .slice none 0 0, .string ⟨#[]⟩, .string ⟨#[]⟩, .string ⟨#[]⟩, .int .i64 0, .string ⟨#[]⟩], .int .i64 2]) ∧ Below w.heap.size w w'
  | some o => ∃ (k : Int) (Ad : Option Addr) (d : List UInt8) (cd : Nat) (Ae : Option Addr) (en : List Ent) (ce : Nat) (tr : ByteArray) (Ap : Option Addr) (pa : List ByteArray) (cp : Nat) (ta na wh : ByteArray) (st : Int) (te : ByteArray),
      Hid (o = ⟨k, d, en, tr, pa, ta, na, wh, st, te⟩) ∧ e = .returned (.tuple #[.agg #[.int .i64 k, .slice Ad d.length cd, .slice Ae en.length ce, .string tr, .slice Ap pa.length cp, .string ta, .string na, .string wh, .int .i64 st, .string te], .int .i64 0]) ∧
      RdN w' w.heap.size 1 Ad d.length (bc d) ∧ RdN w' w.heap.size 3 Ae en.length (ec en) ∧ RdN w' w.heap.size 1 Ap pa.length (pc pa) ∧ Below w.heap.size w w' ∧ en.length ≤ 140737488355328 ∧ pa.length ≤ 140737488355328 ∧ Hid (∀ p ∈ pa, p.size ≤ maxLen)
theorem o_one (k : Int) (vd ve : Value) (tr : ByteArray) (vp : Value) (ta na wh : ByteArray) (st : Int) (te : ByteArray) (hd : vd.oneCell' = true) (he : ve.oneCell' = true) (hp : vp.oneCell' = true) : ∀ v ∈ [Value.int .i64 k, vd, ve, .string tr, vp, .string ta, .string na, .string wh, .int .i64 st, .string te], v.oneCell' = true := by
  intro v hv
  simp only [List.mem_cons, List.not_mem_nil, or_false] at hv
  rcases hv with rfl | rfl | rfl | rfl | rfl | rfl | rfl | rfl | rfl | rfl <;> first | rfl | assumption

set_option maxRecDepth 100000 in
theorem Decode0_calls (A : Option Addr) (c : Nat) (w : World) : Calls Tryz.prog 96 #[.slice A 0 c] w (RetDec w none) := by
  have hb1 : Below w.heap.size w (w.alloc (.cells #[.int .i64 0, .slice none 0 0, .slice none 0 0, .string ⟨#[]⟩, .slice none 0 0, .string ⟨#[]⟩, .string ⟨#[]⟩, .string ⟨#[]⟩, .int .i64 0, .string ⟨#[]⟩] 40)) := (Below.refl _ _).alloc (Nat.le_refl _) _
  have hB := Blk.new w 40 zcells
  go_enter Tryz.func96, Tryz.ntmps96
  go_wp2_with ((refine wpList_store_blk (by rfl) _ (.tmp 2) (.tmp 11) rfl w.heap.size zcells rfl rfl 40 zcells hB (by kernel_rfl) rfl (by decide) ?_; intro w6 hB6 hg6))
  have hl := Go.run_loadVar_row (P := Tryz.prog) w6 w.heap.size 40 40 zcells.toArray (0, 0) _ hB6 Tryz.underlying40 rfl (by kernel_rfl)
  refine bodyPost_ret (v := .tuple #[.agg zcells.toArray, .int .i64 2]) ?_ rfl ⟨rfl, hb1.grown hg6 hb1.size (fun k hk => by cases hk; exact Nat.le_refl _)⟩
  simp [results, Tryz.results96, asAddr, hl]

set_option maxRecDepth 100000 in
set_option maxHeartbeats 8000000 in
theorem Decode1_calls (A : Option Addr) (l : List UInt8) (n c : Nat) (w : World) (hn : n = l.length + 1) (hr : Rd w w.heap.size 1 A n (bc (1 :: l))) (hc : n ≤ c) (hcm : c ≤ maxLen) (hl : l.length ≤ 140737488351231) :
    Calls Tryz.prog 96 #[.slice A n c] w (RetDec w (decO geS (1 :: l))) := by
  have d0 : ((n : Int) == 0) = false := beq_eq_false_iff_ne.2 (by omega)
  have hn0 : (0 : Int) < (n : Int) := by omega
  obtain ⟨m, A', c', em, jm, jm', ⟨rm, km, km'⟩, _, _, _, sm⟩ := sl_from (k := 1) (l := 1 :: l) (c := c) 1 rfl (by rw [List.length_cons, ← hn]; exact hr) (by simp) (by simp; omega) hcm
  rw [List.length_cons, ← hn] at sm jm
  obtain ⟨g, off, rfl, hg, hcell⟩ := hr.at_ (by omega)
  have hml : m = l := by rw [em.out]; rfl
  have hb1 : Below w.heap.size w (w.alloc (.cells #[.int .i64 0, .slice none 0 0, .slice none 0 0, .string ⟨#[]⟩, .slice none 0 0, .string ⟨#[]⟩, .string ⟨#[]⟩, .string ⟨#[]⟩, .int .i64 0, .string ⟨#[]⟩] 40)) := (Below.refl _ _).alloc (Nat.le_refl _) _
  have hb2 := hb1.alloc hb1.size (.cells #[.slice A' m.length c', .int .i64 0] 224)
  have hB1 := Blk.new w 40 zcells
  have hB2 := hB1.alloc (.cells #[.slice A' m.length c', .int .i64 0] 224)
  have hR2 := Blk.new (w.alloc (.cells #[.int .i64 0, .slice none 0 0, .slice none 0 0, .string ⟨#[]⟩, .slice none 0 0, .string ⟨#[]⟩, .string ⟨#[]⟩, .string ⟨#[]⟩, .int .i64 0, .string ⟨#[]⟩] 40)) 224 [.slice A' m.length c', .int .i64 0]
  have s1 : (w.alloc (.cells #[.int .i64 0, .slice none 0 0, .slice none 0 0, .string ⟨#[]⟩, .slice none 0 0, .string ⟨#[]⟩, .string ⟨#[]⟩, .string ⟨#[]⟩, .int .i64 0, .string ⟨#[]⟩] 40)).heap.size = w.heap.size + 1 := by simp
  have s2 : ((w.alloc (.cells #[.int .i64 0, .slice none 0 0, .slice none 0 0, .string ⟨#[]⟩, .slice none 0 0, .string ⟨#[]⟩, .string ⟨#[]⟩, .string ⟨#[]⟩, .int .i64 0, .string ⟨#[]⟩] 40)).alloc (.cells #[.slice A' m.length c', .int .i64 0] 224)).heap.size = w.heap.size + 2 := by simp
  rw [s1] at hR2
  have hRs : Rs ((w.alloc (.cells #[.int .i64 0, .slice none 0 0, .slice none 0 0, .string ⟨#[]⟩, .slice none 0 0, .string ⟨#[]⟩, .string ⟨#[]⟩, .string ⟨#[]⟩, .int .i64 0, .string ⟨#[]⟩] 40)).alloc (.cells #[.slice A' m.length c', .int .i64 0] 224)) (w.heap.size + 1) (w.heap.size + 1) m false := ⟨A', c', hR2, Far.of_rd ((rm.below hb2).more (by omega)) (by omega), km, km', by omega, Nat.le_refl _⟩
  have hx0 : ((w.alloc (.cells #[.int .i64 0, .slice none 0 0, .slice none 0 0, .string ⟨#[]⟩, .slice none 0 0, .string ⟨#[]⟩, .string ⟨#[]⟩, .string ⟨#[]⟩, .int .i64 0, .string ⟨#[]⟩] 40)).alloc (.cells #[.slice A' m.length c', .int .i64 0] 224)).cell? ⟨g, off, none⟩ = some (.int .u8 1) := by
    have := hcell 0 (.int .u8 1) rfl
    rw [← this]
    exact hb2.cell (p := ⟨g, off, none⟩) hg
  have hx1 : w.cell? ⟨g, off, none⟩ = some (.int .u8 1) := hcell 0 (.int .u8 1) rfl
  have hwx : IntKind.i64.wrap 1 = 1 := by rfl
  clear hcell
  have HN := Lib.hid hn
  have HML := Lib.hid hml
  clear hn hml
  go_enter Tryz.func96, Tryz.ntmps96
  go_wp2_with fail
  refine (body1_calls (w.heap.size + 1) (w.heap.size + 1) m _ hRs (by omega) (by have := HML.out; rw [this]; omega)).mono ?_
  rintro e w3 ⟨⟨ko, d, en, tr, pa, ta, na, wh, st, te⟩, Ad, cd, Ae, ce, Ap, cp, l3, b3, rfl, hdn, hen, hpn, hR3, hP, hb3, hel, hpl, hps⟩
  have hsh := hP.out.2
  injection hsh with x1 x2 x3 x4 x5 x6 x7 x8 x9 x10
  simp only [Obj.zero] at x1 x2 x3 x4 x5 x6 x7 x8 x9 x10

  subst x1 x3 x4 x5 x6 x7 x8 x9 x10
  have hPo := Lib.hid hP.out.1
  rw [HML.out] at hPo
  clear hP
  dsimp only at hel hpl hps hdn hen hpn ⊢
  go_wp2_with fail
  refine (made1_calls Ad d.length cd none 0 0 ⟨#[]⟩ none 0 0 ⟨#[]⟩ ⟨#[]⟩ ⟨#[]⟩ 0 ⟨#[]⟩ w3).mono ?_
  rintro e w4 ⟨rfl, hb4⟩
  have hs3 := hb3.size
  have hb34 := hb3.trans (hb4.mono (by omega))
  have hR4 := hR3.below hb4
  have hd4' := hdn.below hb4
  have he4' := hen.below hb4
  have hp4' := hpn.below hb4
  have hbo : Below w4.heap.size w4 (w4.alloc (.cells #[.int .i64 1, .slice Ad d.length cd, .slice none 0 0, .string ⟨#[]⟩, .slice none 0 0, .string ⟨#[]⟩, .string ⟨#[]⟩, .string ⟨#[]⟩, .int .i64 0, .string ⟨#[]⟩] 40)) := (Below.refl _ _).alloc (Nat.le_refl _) _
  have hO := Blk.new w4 40 [.int .i64 1, .slice Ad d.length cd, .slice none 0 0, .string ⟨#[]⟩, .slice none 0 0, .string ⟨#[]⟩, .string ⟨#[]⟩, .string ⟨#[]⟩, .int .i64 0, .string ⟨#[]⟩]
  have hd4 := hd4'.1.alive hbo
  have he4 := he4'.1.alive hbo
  have hp4 := hp4'.1.alive hbo
  have hB4 := hB2.below hb34 (by omega)
  have hE := Encode_calls 1 Ad d cd none [] 0 ⟨#[]⟩ none [] 0 ⟨#[]⟩ ⟨#[]⟩ ⟨#[]⟩ 0 ⟨#[]⟩ (w4.alloc (.cells #[.int .i64 1, .slice Ad d.length cd, .slice none 0 0, .string ⟨#[]⟩, .slice none 0 0, .string ⟨#[]⟩, .string ⟨#[]⟩, .string ⟨#[]⟩, .int .i64 0, .string ⟨#[]⟩] 40)) hd4 Rd.nil Rd.nil (Nat.zero_le _) (Nat.zero_le _) (Lib.hid (by simp))
  obtain ⟨z0, z1, z2, z3, z4, z5, z6, z7, z8, z9⟩ := obj_cells hO
  clear hRs hx0 hx1 hR2 hB1
  go_wp2_with fail
  refine hE.mono ?_
  rintro e w6 ⟨hb6, hR6⟩
  have hb46 := hbo.next hb6
  have hR7 := hR4.below hb46
  have hB7 := hB4.below hb46 hB4.lt
  have hO7 := hO.below hb6 hO.lt
  have hs34 := hb34.size
  have hbe : Below w.heap.size w w6 := hb2.trans ((hb34.mono (by omega)).trans (hb46.mono (by omega)))
  obtain ⟨Ar, cr, hRb, _⟩ := id hR7
  have e1 : w6.cell? ⟨w.heap.size + 1, 1, none⟩ = some (.int .i64 (errB b3)) := by rw [hRb.cell]; rfl
  clear z0 z1 z2 z3 z4 z5 z6 z7 z8 z9 hE
  rcases hR6 with ⟨hck, lo, Ao, co, el, rfl, ho6⟩ | ⟨hck, rfl⟩
  · have hDec := dec_of (ge := geS) hPo.out
    have HCK := Lib.hid hck
    cases b3 with
    | true =>
      have e2 : w6.cell? ⟨w.heap.size + 1, 1, none⟩ = some (.int .i64 2) := e1
      have HD : Hid (decO geS (1 :: l) = none) := by
        unfold Hid
        rw [hDec, if_neg (by simp)]
      clear e1 hDec hck
      go_wp2_with ((refine wpList_store_blk (by rfl) _ (.tmp 2) (.tmp 43) rfl w.heap.size zcells rfl rfl 40 zcells hB7 (by kernel_rfl) rfl (by decide) ?_; intro w8 hB8 hg8))
      have hl := Go.run_loadVar_row (P := Tryz.prog) w8 w.heap.size 40 40 zcells.toArray (0, 0) _ hB8 Tryz.underlying40 rfl (by kernel_rfl)
      rw [show decO geS (1 :: l) = none from HD.out]
      refine bodyPost_ret (v := .tuple #[.agg zcells.toArray, .int .i64 2]) ?_ rfl ⟨rfl, hbe.grown hg8 hbe.size (fun k hk => by cases hk; exact Nat.le_refl _)⟩
      simp [results, Tryz.results96, asAddr, hl]
    | false =>
      have e2 : w6.cell? ⟨w.heap.size + 1, 1, none⟩ = some (.int .i64 0) := e1
      clear e1
      have hr6 := Rd.of_own ho6
      have hrb : Rd w6 w6.heap.size 1 (some ⟨g, off, none⟩) (1 :: l).length (bc (1 :: l)) := by
        have := (hr.below hbe).more hbe.size
        rwa [HN.out] at this
      have hlo : lo.length ≤ 140737488355328 := by
        by_cases h : lo.length ≤ 140737488355328
        · exact h
        · exfalso
          have h1 := el.out
          have h2 := enc_small hck
          rw [← h1] at h2
          omega
      have hnl : n = (1 :: l).length := by rw [List.length_cons]; exact HN.out
      have hq := EqualB_calls Ao lo co (some ⟨g, off, none⟩) (1 :: l) c w6 _ _ hr6 hrb hlo (by simp; omega)
      rw [← hnl] at hq
      have HNL := Lib.hid hnl
      clear hck hnl
      by_cases heq : lo = 1 :: l
      · have HD : Hid (decO geS (1 :: l) = some ⟨1, d, [], ⟨#[]⟩, [], ⟨#[]⟩, ⟨#[]⟩, ⟨#[]⟩, 0, ⟨#[]⟩⟩) := by
          unfold Hid
          rw [hDec, if_pos ⟨rfl, HCK.out, by rw [← el.out]; exact heq⟩]
        have HQ := Lib.hid heq
        clear hDec heq hr hrb hr6 hlo
        obtain ⟨z0, z1, z2, z3, z4, z5, z6, z7, z8, z9⟩ := obj_cells hO7
        go_wp2_with ((first
          | (go_at_call 161; refine hq.mono ?_; rintro e w7 ⟨v7, n7, rfl, hv7, rfl⟩; obtain rfl := hv7.2 HQ.out)
          | (refine wpList_store_blk (by rfl) _ (.tmp 2) (.tmp 44) rfl w.heap.size [.int .i64 1, .slice Ad d.length cd, .slice none 0 0, .string ⟨#[]⟩, .slice none 0 0, .string ⟨#[]⟩, .string ⟨#[]⟩, .string ⟨#[]⟩, .int .i64 0, .string ⟨#[]⟩] rfl rfl 40 zcells (hB7.drewN n7) (by kernel_rfl) rfl (o_one _ _ _ _ _ _ _ _ _ _ rfl rfl rfl) ?_; intro w8 hB8 hg8)))
        have hl := Go.run_loadVar_row (P := Tryz.prog) w8 w.heap.size 40 40 #[.int .i64 1, .slice Ad d.length cd, .slice none 0 0, .string ⟨#[]⟩, .slice none 0 0, .string ⟨#[]⟩, .string ⟨#[]⟩, .string ⟨#[]⟩, .int .i64 0, .string ⟨#[]⟩] (0, 0) _ hB8 Tryz.underlying40 rfl (by kernel_rfl)
        rw [HD.out]
        have hg9 : w6.grownBy w8 (some w.heap.size) := ⟨hg8.os, hg8.tape, hg8.output, hg8.size, hg8.block⟩
        have hb9 : Below w.heap.size w w8 := hbe.grown hg9 hbe.size (fun k hk => by cases hk; exact Nat.le_refl _)
        refine bodyPost_ret (v := .tuple #[.agg #[.int .i64 1, .slice Ad d.length cd, .slice none 0 0, .string ⟨#[]⟩, .slice none 0 0, .string ⟨#[]⟩, .string ⟨#[]⟩, .string ⟨#[]⟩, .int .i64 0, .string ⟨#[]⟩], .int .i64 0]) ?_ rfl ⟨1, Ad, d, cd, none, [], 0, ⟨#[]⟩, none, [], 0, ⟨#[]⟩, ⟨#[]⟩, ⟨#[]⟩, 0, ⟨#[]⟩, rfl, rfl, ((((hdn.below hb4).below hb46).apart hg9 (by omega)).lower (by omega)), RdN.nil, RdN.nil, hb9, (Nat.zero_le _), (Nat.zero_le _), (Lib.hid (by simp))⟩
        simp [results, Tryz.results96, asAddr, hl]
      · have HD : Hid (decO geS (1 :: l) = none) := by
          unfold Hid
          rw [hDec, if_neg (by rintro ⟨_, _, h⟩; exact heq (by rw [el.out, h]))]
        have HQ := Lib.hid heq
        clear hDec heq hr hrb hr6 hlo
        go_wp2_with ((first
          | (go_at_call 161; refine hq.mono ?_; rintro e w7 ⟨v7, n7, rfl, hv7, rfl⟩; obtain rfl : v7 = false := Bool.eq_false_iff.2 fun h => HQ.out (hv7.1 h))
          | (refine wpList_store_blk (by rfl) _ (.tmp 2) (.tmp 43) rfl w.heap.size zcells rfl rfl 40 zcells (hB7.drewN n7) (by kernel_rfl) rfl (by decide) ?_; intro w8 hB8 hg8)))
        have hl := Go.run_loadVar_row (P := Tryz.prog) w8 w.heap.size 40 40 zcells.toArray (0, 0) _ hB8 Tryz.underlying40 rfl (by kernel_rfl)
        rw [HD.out]
        have hg9 : w6.grownBy w8 (some w.heap.size) := ⟨hg8.os, hg8.tape, hg8.output, hg8.size, hg8.block⟩
        refine bodyPost_ret (v := .tuple #[.agg zcells.toArray, .int .i64 2]) ?_ rfl ⟨rfl, hbe.grown hg9 hbe.size (fun k hk => by cases hk; exact Nat.le_refl _)⟩
        simp [results, Tryz.results96, asAddr, hl]
  · have hDec := dec_of (ge := geS) hPo.out
    have HD : Hid (decO geS (1 :: l) = none) := by
      unfold Hid
      rw [hDec, if_neg (by rw [hck]; simp)]
    clear hDec
    cases b3 with
    | true =>
      have e2 : w6.cell? ⟨w.heap.size + 1, 1, none⟩ = some (.int .i64 2) := e1
      clear e1
      go_wp2_with ((refine wpList_store_blk (by rfl) _ (.tmp 2) (.tmp 43) rfl w.heap.size zcells rfl rfl 40 zcells hB7 (by kernel_rfl) rfl (by decide) ?_; intro w8 hB8 hg8))
      have hl := Go.run_loadVar_row (P := Tryz.prog) w8 w.heap.size 40 40 zcells.toArray (0, 0) _ hB8 Tryz.underlying40 rfl (by kernel_rfl)
      rw [show decO geS (1 :: l) = none from HD.out]
      refine bodyPost_ret (v := .tuple #[.agg zcells.toArray, .int .i64 2]) ?_ rfl ⟨rfl, hbe.grown hg8 hbe.size (fun k hk => by cases hk; exact Nat.le_refl _)⟩
      simp [results, Tryz.results96, asAddr, hl]
    | false =>
      have e2 : w6.cell? ⟨w.heap.size + 1, 1, none⟩ = some (.int .i64 0) := e1
      clear e1
      go_wp2_with ((refine wpList_store_blk (by rfl) _ (.tmp 2) (.tmp 43) rfl w.heap.size zcells rfl rfl 40 zcells hB7 (by kernel_rfl) rfl (by decide) ?_; intro w8 hB8 hg8))
      have hl := Go.run_loadVar_row (P := Tryz.prog) w8 w.heap.size 40 40 zcells.toArray (0, 0) _ hB8 Tryz.underlying40 rfl (by kernel_rfl)
      rw [show decO geS (1 :: l) = none from HD.out]
      refine bodyPost_ret (v := .tuple #[.agg zcells.toArray, .int .i64 2]) ?_ rfl ⟨rfl, hbe.grown hg8 hbe.size (fun k hk => by cases hk; exact Nat.le_refl _)⟩
      simp [results, Tryz.results96, asAddr, hl]

set_option maxRecDepth 100000 in
set_option maxHeartbeats 8000000 in
theorem Decode2_calls (A : Option Addr) (l : List UInt8) (n c : Nat) (w : World) (hn : n = l.length + 1) (hr : Rd w w.heap.size 1 A n (bc (2 :: l))) (hc : n ≤ c) (hcm : c ≤ maxLen) (hl : l.length ≤ 140737488351231) :
    Calls Tryz.prog 96 #[.slice A n c] w (RetDec w (decO geS (2 :: l))) := by
  have d0 : ((n : Int) == 0) = false := beq_eq_false_iff_ne.2 (by omega)
  have hn0 : (0 : Int) < (n : Int) := by omega
  obtain ⟨m, A', c', em, jm, jm', ⟨rm, km, km'⟩, _, _, _, sm⟩ := sl_from (k := 1) (l := 2 :: l) (c := c) 1 rfl (by rw [List.length_cons, ← hn]; exact hr) (by simp) (by simp; omega) hcm
  rw [List.length_cons, ← hn] at sm jm
  obtain ⟨g, off, rfl, hg, hcell⟩ := hr.at_ (by omega)
  have hml : m = l := by rw [em.out]; rfl
  have hb1 : Below w.heap.size w (w.alloc (.cells #[.int .i64 0, .slice none 0 0, .slice none 0 0, .string ⟨#[]⟩, .slice none 0 0, .string ⟨#[]⟩, .string ⟨#[]⟩, .string ⟨#[]⟩, .int .i64 0, .string ⟨#[]⟩] 40)) := (Below.refl _ _).alloc (Nat.le_refl _) _
  have hb2 := hb1.alloc hb1.size (.cells #[.slice A' m.length c', .int .i64 0] 224)
  have hB1 := Blk.new w 40 zcells
  have hB2 := hB1.alloc (.cells #[.slice A' m.length c', .int .i64 0] 224)
  have hR2 := Blk.new (w.alloc (.cells #[.int .i64 0, .slice none 0 0, .slice none 0 0, .string ⟨#[]⟩, .slice none 0 0, .string ⟨#[]⟩, .string ⟨#[]⟩, .string ⟨#[]⟩, .int .i64 0, .string ⟨#[]⟩] 40)) 224 [.slice A' m.length c', .int .i64 0]
  have s1 : (w.alloc (.cells #[.int .i64 0, .slice none 0 0, .slice none 0 0, .string ⟨#[]⟩, .slice none 0 0, .string ⟨#[]⟩, .string ⟨#[]⟩, .string ⟨#[]⟩, .int .i64 0, .string ⟨#[]⟩] 40)).heap.size = w.heap.size + 1 := by simp
  have s2 : ((w.alloc (.cells #[.int .i64 0, .slice none 0 0, .slice none 0 0, .string ⟨#[]⟩, .slice none 0 0, .string ⟨#[]⟩, .string ⟨#[]⟩, .string ⟨#[]⟩, .int .i64 0, .string ⟨#[]⟩] 40)).alloc (.cells #[.slice A' m.length c', .int .i64 0] 224)).heap.size = w.heap.size + 2 := by simp
  rw [s1] at hR2
  have hRs : Rs ((w.alloc (.cells #[.int .i64 0, .slice none 0 0, .slice none 0 0, .string ⟨#[]⟩, .slice none 0 0, .string ⟨#[]⟩, .string ⟨#[]⟩, .string ⟨#[]⟩, .int .i64 0, .string ⟨#[]⟩] 40)).alloc (.cells #[.slice A' m.length c', .int .i64 0] 224)) (w.heap.size + 1) (w.heap.size + 1) m false := ⟨A', c', hR2, Far.of_rd ((rm.below hb2).more (by omega)) (by omega), km, km', by omega, Nat.le_refl _⟩
  have hx0 : ((w.alloc (.cells #[.int .i64 0, .slice none 0 0, .slice none 0 0, .string ⟨#[]⟩, .slice none 0 0, .string ⟨#[]⟩, .string ⟨#[]⟩, .string ⟨#[]⟩, .int .i64 0, .string ⟨#[]⟩] 40)).alloc (.cells #[.slice A' m.length c', .int .i64 0] 224)).cell? ⟨g, off, none⟩ = some (.int .u8 2) := by
    have := hcell 0 (.int .u8 2) rfl
    rw [← this]
    exact hb2.cell (p := ⟨g, off, none⟩) hg
  have hx1 : w.cell? ⟨g, off, none⟩ = some (.int .u8 2) := hcell 0 (.int .u8 2) rfl
  have hwx : IntKind.i64.wrap 2 = 2 := by rfl
  clear hcell
  have HN := Lib.hid hn
  have HML := Lib.hid hml
  clear hn hml
  go_enter Tryz.func96, Tryz.ntmps96
  go_wp2_with fail
  refine (body2_calls (w.heap.size + 1) (w.heap.size + 1) m _ hRs (by omega) (by have := HML.out; rw [this]; omega)).mono ?_
  rintro e w3 ⟨⟨ko, d, en, tr, pa, ta, na, wh, st, te⟩, Ad, cd, Ae, ce, Ap, cp, l3, b3, rfl, hdn, hen, hpn, hR3, hP, hb3, hel, hpl, hps⟩
  have hsh := hP.out.2
  injection hsh with x1 x2 x3 x4 x5 x6 x7 x8 x9 x10
  simp only [Obj.zero] at x1 x2 x3 x4 x5 x6 x7 x8 x9 x10

  subst x1 x2 x4 x5 x6 x7 x8 x9 x10
  have hPo := Lib.hid hP.out.1
  rw [HML.out] at hPo
  clear hP
  dsimp only at hel hpl hps hdn hen hpn ⊢
  go_wp2_with fail
  refine (made2_calls none 0 0 Ae en.length ce ⟨#[]⟩ none 0 0 ⟨#[]⟩ ⟨#[]⟩ ⟨#[]⟩ 0 ⟨#[]⟩ w3).mono ?_
  rintro e w4 ⟨rfl, hb4⟩
  have hs3 := hb3.size
  have hb34 := hb3.trans (hb4.mono (by omega))
  have hR4 := hR3.below hb4
  have hd4' := hdn.below hb4
  have he4' := hen.below hb4
  have hp4' := hpn.below hb4
  have hbo : Below w4.heap.size w4 (w4.alloc (.cells #[.int .i64 2, .slice none 0 0, .slice Ae en.length ce, .string ⟨#[]⟩, .slice none 0 0, .string ⟨#[]⟩, .string ⟨#[]⟩, .string ⟨#[]⟩, .int .i64 0, .string ⟨#[]⟩] 40)) := (Below.refl _ _).alloc (Nat.le_refl _) _
  have hO := Blk.new w4 40 [.int .i64 2, .slice none 0 0, .slice Ae en.length ce, .string ⟨#[]⟩, .slice none 0 0, .string ⟨#[]⟩, .string ⟨#[]⟩, .string ⟨#[]⟩, .int .i64 0, .string ⟨#[]⟩]
  have hd4 := hd4'.1.alive hbo
  have he4 := he4'.1.alive hbo
  have hp4 := hp4'.1.alive hbo
  have hB4 := hB2.below hb34 (by omega)
  have hE := Encode_calls 2 none [] 0 Ae en ce ⟨#[]⟩ none [] 0 ⟨#[]⟩ ⟨#[]⟩ ⟨#[]⟩ 0 ⟨#[]⟩ (w4.alloc (.cells #[.int .i64 2, .slice none 0 0, .slice Ae en.length ce, .string ⟨#[]⟩, .slice none 0 0, .string ⟨#[]⟩, .string ⟨#[]⟩, .string ⟨#[]⟩, .int .i64 0, .string ⟨#[]⟩] 40)) Rd.nil he4 Rd.nil (Nat.le_trans hel (by decide)) (Nat.zero_le _) (Lib.hid (by simp))
  obtain ⟨z0, z1, z2, z3, z4, z5, z6, z7, z8, z9⟩ := obj_cells hO
  clear hRs hx0 hx1 hR2 hB1
  go_wp2_with fail
  refine hE.mono ?_
  rintro e w6 ⟨hb6, hR6⟩
  have hb46 := hbo.next hb6
  have hR7 := hR4.below hb46
  have hB7 := hB4.below hb46 hB4.lt
  have hO7 := hO.below hb6 hO.lt
  have hs34 := hb34.size
  have hbe : Below w.heap.size w w6 := hb2.trans ((hb34.mono (by omega)).trans (hb46.mono (by omega)))
  obtain ⟨Ar, cr, hRb, _⟩ := id hR7
  have e1 : w6.cell? ⟨w.heap.size + 1, 1, none⟩ = some (.int .i64 (errB b3)) := by rw [hRb.cell]; rfl
  clear z0 z1 z2 z3 z4 z5 z6 z7 z8 z9 hE
  rcases hR6 with ⟨hck, lo, Ao, co, el, rfl, ho6⟩ | ⟨hck, rfl⟩
  · have hDec := dec_of (ge := geS) hPo.out
    have HCK := Lib.hid hck
    cases b3 with
    | true =>
      have e2 : w6.cell? ⟨w.heap.size + 1, 1, none⟩ = some (.int .i64 2) := e1
      have HD : Hid (decO geS (2 :: l) = none) := by
        unfold Hid
        rw [hDec, if_neg (by simp)]
      clear e1 hDec hck
      go_wp2_with ((refine wpList_store_blk (by rfl) _ (.tmp 2) (.tmp 43) rfl w.heap.size zcells rfl rfl 40 zcells hB7 (by kernel_rfl) rfl (by decide) ?_; intro w8 hB8 hg8))
      have hl := Go.run_loadVar_row (P := Tryz.prog) w8 w.heap.size 40 40 zcells.toArray (0, 0) _ hB8 Tryz.underlying40 rfl (by kernel_rfl)
      rw [show decO geS (2 :: l) = none from HD.out]
      refine bodyPost_ret (v := .tuple #[.agg zcells.toArray, .int .i64 2]) ?_ rfl ⟨rfl, hbe.grown hg8 hbe.size (fun k hk => by cases hk; exact Nat.le_refl _)⟩
      simp [results, Tryz.results96, asAddr, hl]
    | false =>
      have e2 : w6.cell? ⟨w.heap.size + 1, 1, none⟩ = some (.int .i64 0) := e1
      clear e1
      have hr6 := Rd.of_own ho6
      have hrb : Rd w6 w6.heap.size 1 (some ⟨g, off, none⟩) (2 :: l).length (bc (2 :: l)) := by
        have := (hr.below hbe).more hbe.size
        rwa [HN.out] at this
      have hlo : lo.length ≤ 140737488355328 := by
        by_cases h : lo.length ≤ 140737488355328
        · exact h
        · exfalso
          have h1 := el.out
          have h2 := enc_small hck
          rw [← h1] at h2
          omega
      have hnl : n = (2 :: l).length := by rw [List.length_cons]; exact HN.out
      have hq := EqualB_calls Ao lo co (some ⟨g, off, none⟩) (2 :: l) c w6 _ _ hr6 hrb hlo (by simp; omega)
      rw [← hnl] at hq
      have HNL := Lib.hid hnl
      clear hck hnl
      by_cases heq : lo = 2 :: l
      · have HD : Hid (decO geS (2 :: l) = some ⟨2, [], en, ⟨#[]⟩, [], ⟨#[]⟩, ⟨#[]⟩, ⟨#[]⟩, 0, ⟨#[]⟩⟩) := by
          unfold Hid
          rw [hDec, if_pos ⟨rfl, HCK.out, by rw [← el.out]; exact heq⟩]
        have HQ := Lib.hid heq
        clear hDec heq hr hrb hr6 hlo
        obtain ⟨z0, z1, z2, z3, z4, z5, z6, z7, z8, z9⟩ := obj_cells hO7
        go_wp2_with ((first
          | (go_at_call 161; refine hq.mono ?_; rintro e w7 ⟨v7, n7, rfl, hv7, rfl⟩; obtain rfl := hv7.2 HQ.out)
          | (refine wpList_store_blk (by rfl) _ (.tmp 2) (.tmp 44) rfl w.heap.size [.int .i64 2, .slice none 0 0, .slice Ae en.length ce, .string ⟨#[]⟩, .slice none 0 0, .string ⟨#[]⟩, .string ⟨#[]⟩, .string ⟨#[]⟩, .int .i64 0, .string ⟨#[]⟩] rfl rfl 40 zcells (hB7.drewN n7) (by kernel_rfl) rfl (o_one _ _ _ _ _ _ _ _ _ _ rfl rfl rfl) ?_; intro w8 hB8 hg8)))
        have hl := Go.run_loadVar_row (P := Tryz.prog) w8 w.heap.size 40 40 #[.int .i64 2, .slice none 0 0, .slice Ae en.length ce, .string ⟨#[]⟩, .slice none 0 0, .string ⟨#[]⟩, .string ⟨#[]⟩, .string ⟨#[]⟩, .int .i64 0, .string ⟨#[]⟩] (0, 0) _ hB8 Tryz.underlying40 rfl (by kernel_rfl)
        rw [HD.out]
        have hg9 : w6.grownBy w8 (some w.heap.size) := ⟨hg8.os, hg8.tape, hg8.output, hg8.size, hg8.block⟩
        have hb9 : Below w.heap.size w w8 := hbe.grown hg9 hbe.size (fun k hk => by cases hk; exact Nat.le_refl _)
        refine bodyPost_ret (v := .tuple #[.agg #[.int .i64 2, .slice none 0 0, .slice Ae en.length ce, .string ⟨#[]⟩, .slice none 0 0, .string ⟨#[]⟩, .string ⟨#[]⟩, .string ⟨#[]⟩, .int .i64 0, .string ⟨#[]⟩], .int .i64 0]) ?_ rfl ⟨2, none, [], 0, Ae, en, ce, ⟨#[]⟩, none, [], 0, ⟨#[]⟩, ⟨#[]⟩, ⟨#[]⟩, 0, ⟨#[]⟩, rfl, rfl, RdN.nil, ((((hen.below hb4).below hb46).apart hg9 (by omega)).lower (by omega)), RdN.nil, hb9, (Nat.le_trans hel (by decide)), (Nat.zero_le _), (Lib.hid (by simp))⟩
        simp [results, Tryz.results96, asAddr, hl]
      · have HD : Hid (decO geS (2 :: l) = none) := by
          unfold Hid
          rw [hDec, if_neg (by rintro ⟨_, _, h⟩; exact heq (by rw [el.out, h]))]
        have HQ := Lib.hid heq
        clear hDec heq hr hrb hr6 hlo
        go_wp2_with ((first
          | (go_at_call 161; refine hq.mono ?_; rintro e w7 ⟨v7, n7, rfl, hv7, rfl⟩; obtain rfl : v7 = false := Bool.eq_false_iff.2 fun h => HQ.out (hv7.1 h))
          | (refine wpList_store_blk (by rfl) _ (.tmp 2) (.tmp 43) rfl w.heap.size zcells rfl rfl 40 zcells (hB7.drewN n7) (by kernel_rfl) rfl (by decide) ?_; intro w8 hB8 hg8)))
        have hl := Go.run_loadVar_row (P := Tryz.prog) w8 w.heap.size 40 40 zcells.toArray (0, 0) _ hB8 Tryz.underlying40 rfl (by kernel_rfl)
        rw [HD.out]
        have hg9 : w6.grownBy w8 (some w.heap.size) := ⟨hg8.os, hg8.tape, hg8.output, hg8.size, hg8.block⟩
        refine bodyPost_ret (v := .tuple #[.agg zcells.toArray, .int .i64 2]) ?_ rfl ⟨rfl, hbe.grown hg9 hbe.size (fun k hk => by cases hk; exact Nat.le_refl _)⟩
        simp [results, Tryz.results96, asAddr, hl]
  · have hDec := dec_of (ge := geS) hPo.out
    have HD : Hid (decO geS (2 :: l) = none) := by
      unfold Hid
      rw [hDec, if_neg (by rw [hck]; simp)]
    clear hDec
    cases b3 with
    | true =>
      have e2 : w6.cell? ⟨w.heap.size + 1, 1, none⟩ = some (.int .i64 2) := e1
      clear e1
      go_wp2_with ((refine wpList_store_blk (by rfl) _ (.tmp 2) (.tmp 43) rfl w.heap.size zcells rfl rfl 40 zcells hB7 (by kernel_rfl) rfl (by decide) ?_; intro w8 hB8 hg8))
      have hl := Go.run_loadVar_row (P := Tryz.prog) w8 w.heap.size 40 40 zcells.toArray (0, 0) _ hB8 Tryz.underlying40 rfl (by kernel_rfl)
      rw [show decO geS (2 :: l) = none from HD.out]
      refine bodyPost_ret (v := .tuple #[.agg zcells.toArray, .int .i64 2]) ?_ rfl ⟨rfl, hbe.grown hg8 hbe.size (fun k hk => by cases hk; exact Nat.le_refl _)⟩
      simp [results, Tryz.results96, asAddr, hl]
    | false =>
      have e2 : w6.cell? ⟨w.heap.size + 1, 1, none⟩ = some (.int .i64 0) := e1
      clear e1
      go_wp2_with ((refine wpList_store_blk (by rfl) _ (.tmp 2) (.tmp 43) rfl w.heap.size zcells rfl rfl 40 zcells hB7 (by kernel_rfl) rfl (by decide) ?_; intro w8 hB8 hg8))
      have hl := Go.run_loadVar_row (P := Tryz.prog) w8 w.heap.size 40 40 zcells.toArray (0, 0) _ hB8 Tryz.underlying40 rfl (by kernel_rfl)
      rw [show decO geS (2 :: l) = none from HD.out]
      refine bodyPost_ret (v := .tuple #[.agg zcells.toArray, .int .i64 2]) ?_ rfl ⟨rfl, hbe.grown hg8 hbe.size (fun k hk => by cases hk; exact Nat.le_refl _)⟩
      simp [results, Tryz.results96, asAddr, hl]

set_option maxRecDepth 100000 in
set_option maxHeartbeats 8000000 in
theorem Decode3_calls (A : Option Addr) (l : List UInt8) (n c : Nat) (w : World) (hn : n = l.length + 1) (hr : Rd w w.heap.size 1 A n (bc (3 :: l))) (hc : n ≤ c) (hcm : c ≤ maxLen) (hl : l.length ≤ 140737488351231) :
    Calls Tryz.prog 96 #[.slice A n c] w (RetDec w (decO geS (3 :: l))) := by
  have d0 : ((n : Int) == 0) = false := beq_eq_false_iff_ne.2 (by omega)
  have hn0 : (0 : Int) < (n : Int) := by omega
  obtain ⟨m, A', c', em, jm, jm', ⟨rm, km, km'⟩, _, _, _, sm⟩ := sl_from (k := 1) (l := 3 :: l) (c := c) 1 rfl (by rw [List.length_cons, ← hn]; exact hr) (by simp) (by simp; omega) hcm
  rw [List.length_cons, ← hn] at sm jm
  obtain ⟨g, off, rfl, hg, hcell⟩ := hr.at_ (by omega)
  have hml : m = l := by rw [em.out]; rfl
  have hb1 : Below w.heap.size w (w.alloc (.cells #[.int .i64 0, .slice none 0 0, .slice none 0 0, .string ⟨#[]⟩, .slice none 0 0, .string ⟨#[]⟩, .string ⟨#[]⟩, .string ⟨#[]⟩, .int .i64 0, .string ⟨#[]⟩] 40)) := (Below.refl _ _).alloc (Nat.le_refl _) _
  have hb2 := hb1.alloc hb1.size (.cells #[.slice A' m.length c', .int .i64 0] 224)
  have hB1 := Blk.new w 40 zcells
  have hB2 := hB1.alloc (.cells #[.slice A' m.length c', .int .i64 0] 224)
  have hR2 := Blk.new (w.alloc (.cells #[.int .i64 0, .slice none 0 0, .slice none 0 0, .string ⟨#[]⟩, .slice none 0 0, .string ⟨#[]⟩, .string ⟨#[]⟩, .string ⟨#[]⟩, .int .i64 0, .string ⟨#[]⟩] 40)) 224 [.slice A' m.length c', .int .i64 0]
  have s1 : (w.alloc (.cells #[.int .i64 0, .slice none 0 0, .slice none 0 0, .string ⟨#[]⟩, .slice none 0 0, .string ⟨#[]⟩, .string ⟨#[]⟩, .string ⟨#[]⟩, .int .i64 0, .string ⟨#[]⟩] 40)).heap.size = w.heap.size + 1 := by simp
  have s2 : ((w.alloc (.cells #[.int .i64 0, .slice none 0 0, .slice none 0 0, .string ⟨#[]⟩, .slice none 0 0, .string ⟨#[]⟩, .string ⟨#[]⟩, .string ⟨#[]⟩, .int .i64 0, .string ⟨#[]⟩] 40)).alloc (.cells #[.slice A' m.length c', .int .i64 0] 224)).heap.size = w.heap.size + 2 := by simp
  rw [s1] at hR2
  have hRs : Rs ((w.alloc (.cells #[.int .i64 0, .slice none 0 0, .slice none 0 0, .string ⟨#[]⟩, .slice none 0 0, .string ⟨#[]⟩, .string ⟨#[]⟩, .string ⟨#[]⟩, .int .i64 0, .string ⟨#[]⟩] 40)).alloc (.cells #[.slice A' m.length c', .int .i64 0] 224)) (w.heap.size + 1) (w.heap.size + 1) m false := ⟨A', c', hR2, Far.of_rd ((rm.below hb2).more (by omega)) (by omega), km, km', by omega, Nat.le_refl _⟩
  have hx0 : ((w.alloc (.cells #[.int .i64 0, .slice none 0 0, .slice none 0 0, .string ⟨#[]⟩, .slice none 0 0, .string ⟨#[]⟩, .string ⟨#[]⟩, .string ⟨#[]⟩, .int .i64 0, .string ⟨#[]⟩] 40)).alloc (.cells #[.slice A' m.length c', .int .i64 0] 224)).cell? ⟨g, off, none⟩ = some (.int .u8 3) := by
    have := hcell 0 (.int .u8 3) rfl
    rw [← this]
    exact hb2.cell (p := ⟨g, off, none⟩) hg
  have hx1 : w.cell? ⟨g, off, none⟩ = some (.int .u8 3) := hcell 0 (.int .u8 3) rfl
  have hwx : IntKind.i64.wrap 3 = 3 := by rfl
  clear hcell
  have HN := Lib.hid hn
  have HML := Lib.hid hml
  clear hn hml
  go_enter Tryz.func96, Tryz.ntmps96
  go_wp2_with fail
  refine (body3_calls (w.heap.size + 1) (w.heap.size + 1) m _ hRs (by omega) (by have := HML.out; rw [this]; omega)).mono ?_
  rintro e w3 ⟨⟨ko, d, en, tr, pa, ta, na, wh, st, te⟩, Ad, cd, Ae, ce, Ap, cp, l3, b3, rfl, hdn, hen, hpn, hR3, hP, hb3, hel, hpl, hps⟩
  have hsh := hP.out.2
  injection hsh with x1 x2 x3 x4 x5 x6 x7 x8 x9 x10
  simp only [Obj.zero] at x1 x2 x3 x4 x5 x6 x7 x8 x9 x10

  subst x1 x2 x3 x6 x7
  have hPo := Lib.hid hP.out.1
  rw [HML.out] at hPo
  clear hP
  dsimp only at hel hpl hps hdn hen hpn ⊢
  go_wp2_with fail
  refine (made3_calls none 0 0 none 0 0 tr Ap pa.length cp ⟨#[]⟩ ⟨#[]⟩ wh st te w3).mono ?_
  rintro e w4 ⟨rfl, hb4⟩
  have hs3 := hb3.size
  have hb34 := hb3.trans (hb4.mono (by omega))
  have hR4 := hR3.below hb4
  have hd4' := hdn.below hb4
  have he4' := hen.below hb4
  have hp4' := hpn.below hb4
  have hbo : Below w4.heap.size w4 (w4.alloc (.cells #[.int .i64 3, .slice none 0 0, .slice none 0 0, .string tr, .slice Ap pa.length cp, .string ⟨#[]⟩, .string ⟨#[]⟩, .string wh, .int .i64 st, .string te] 40)) := (Below.refl _ _).alloc (Nat.le_refl _) _
  have hO := Blk.new w4 40 [.int .i64 3, .slice none 0 0, .slice none 0 0, .string tr, .slice Ap pa.length cp, .string ⟨#[]⟩, .string ⟨#[]⟩, .string wh, .int .i64 st, .string te]
  have hd4 := hd4'.1.alive hbo
  have he4 := he4'.1.alive hbo
  have hp4 := hp4'.1.alive hbo
  have hB4 := hB2.below hb34 (by omega)
  have hE := Encode_calls 3 none [] 0 none [] 0 tr Ap pa cp ⟨#[]⟩ ⟨#[]⟩ wh st te (w4.alloc (.cells #[.int .i64 3, .slice none 0 0, .slice none 0 0, .string tr, .slice Ap pa.length cp, .string ⟨#[]⟩, .string ⟨#[]⟩, .string wh, .int .i64 st, .string te] 40)) Rd.nil Rd.nil hp4 (Nat.zero_le _) (Nat.le_trans hpl (by decide)) hps
  obtain ⟨z0, z1, z2, z3, z4, z5, z6, z7, z8, z9⟩ := obj_cells hO
  clear hRs hx0 hx1 hR2 hB1
  go_wp2_with fail
  refine hE.mono ?_
  rintro e w6 ⟨hb6, hR6⟩
  have hb46 := hbo.next hb6
  have hR7 := hR4.below hb46
  have hB7 := hB4.below hb46 hB4.lt
  have hO7 := hO.below hb6 hO.lt
  have hs34 := hb34.size
  have hbe : Below w.heap.size w w6 := hb2.trans ((hb34.mono (by omega)).trans (hb46.mono (by omega)))
  obtain ⟨Ar, cr, hRb, _⟩ := id hR7
  have e1 : w6.cell? ⟨w.heap.size + 1, 1, none⟩ = some (.int .i64 (errB b3)) := by rw [hRb.cell]; rfl
  clear z0 z1 z2 z3 z4 z5 z6 z7 z8 z9 hE
  rcases hR6 with ⟨hck, lo, Ao, co, el, rfl, ho6⟩ | ⟨hck, rfl⟩
  · have hDec := dec_of (ge := geS) hPo.out
    have HCK := Lib.hid hck
    cases b3 with
    | true =>
      have e2 : w6.cell? ⟨w.heap.size + 1, 1, none⟩ = some (.int .i64 2) := e1
      have HD : Hid (decO geS (3 :: l) = none) := by
        unfold Hid
        rw [hDec, if_neg (by simp)]
      clear e1 hDec hck
      go_wp2_with ((refine wpList_store_blk (by rfl) _ (.tmp 2) (.tmp 43) rfl w.heap.size zcells rfl rfl 40 zcells hB7 (by kernel_rfl) rfl (by decide) ?_; intro w8 hB8 hg8))
      have hl := Go.run_loadVar_row (P := Tryz.prog) w8 w.heap.size 40 40 zcells.toArray (0, 0) _ hB8 Tryz.underlying40 rfl (by kernel_rfl)
      rw [show decO geS (3 :: l) = none from HD.out]
      refine bodyPost_ret (v := .tuple #[.agg zcells.toArray, .int .i64 2]) ?_ rfl ⟨rfl, hbe.grown hg8 hbe.size (fun k hk => by cases hk; exact Nat.le_refl _)⟩
      simp [results, Tryz.results96, asAddr, hl]
    | false =>
      have e2 : w6.cell? ⟨w.heap.size + 1, 1, none⟩ = some (.int .i64 0) := e1
      clear e1
      have hr6 := Rd.of_own ho6
      have hrb : Rd w6 w6.heap.size 1 (some ⟨g, off, none⟩) (3 :: l).length (bc (3 :: l)) := by
        have := (hr.below hbe).more hbe.size
        rwa [HN.out] at this
      have hlo : lo.length ≤ 140737488355328 := by
        by_cases h : lo.length ≤ 140737488355328
        · exact h
        · exfalso
          have h1 := el.out
          have h2 := enc_small hck
          rw [← h1] at h2
          omega
      have hnl : n = (3 :: l).length := by rw [List.length_cons]; exact HN.out
      have hq := EqualB_calls Ao lo co (some ⟨g, off, none⟩) (3 :: l) c w6 _ _ hr6 hrb hlo (by simp; omega)
      rw [← hnl] at hq
      have HNL := Lib.hid hnl
      clear hck hnl
      by_cases heq : lo = 3 :: l
      · have HD : Hid (decO geS (3 :: l) = some ⟨3, [], [], tr, pa, ⟨#[]⟩, ⟨#[]⟩, wh, st, te⟩) := by
          unfold Hid
          rw [hDec, if_pos ⟨rfl, HCK.out, by rw [← el.out]; exact heq⟩]
        have HQ := Lib.hid heq
        clear hDec heq hr hrb hr6 hlo
        obtain ⟨z0, z1, z2, z3, z4, z5, z6, z7, z8, z9⟩ := obj_cells hO7
        go_wp2_with ((first
          | (go_at_call 161; refine hq.mono ?_; rintro e w7 ⟨v7, n7, rfl, hv7, rfl⟩; obtain rfl := hv7.2 HQ.out)
          | (refine wpList_store_blk (by rfl) _ (.tmp 2) (.tmp 44) rfl w.heap.size [.int .i64 3, .slice none 0 0, .slice none 0 0, .string tr, .slice Ap pa.length cp, .string ⟨#[]⟩, .string ⟨#[]⟩, .string wh, .int .i64 st, .string te] rfl rfl 40 zcells (hB7.drewN n7) (by kernel_rfl) rfl (o_one _ _ _ _ _ _ _ _ _ _ rfl rfl rfl) ?_; intro w8 hB8 hg8)))
        have hl := Go.run_loadVar_row (P := Tryz.prog) w8 w.heap.size 40 40 #[.int .i64 3, .slice none 0 0, .slice none 0 0, .string tr, .slice Ap pa.length cp, .string ⟨#[]⟩, .string ⟨#[]⟩, .string wh, .int .i64 st, .string te] (0, 0) _ hB8 Tryz.underlying40 rfl (by kernel_rfl)
        rw [HD.out]
        have hg9 : w6.grownBy w8 (some w.heap.size) := ⟨hg8.os, hg8.tape, hg8.output, hg8.size, hg8.block⟩
        have hb9 : Below w.heap.size w w8 := hbe.grown hg9 hbe.size (fun k hk => by cases hk; exact Nat.le_refl _)
        refine bodyPost_ret (v := .tuple #[.agg #[.int .i64 3, .slice none 0 0, .slice none 0 0, .string tr, .slice Ap pa.length cp, .string ⟨#[]⟩, .string ⟨#[]⟩, .string wh, .int .i64 st, .string te], .int .i64 0]) ?_ rfl ⟨3, none, [], 0, none, [], 0, tr, Ap, pa, cp, ⟨#[]⟩, ⟨#[]⟩, wh, st, te, rfl, rfl, RdN.nil, RdN.nil, ((((hpn.below hb4).below hb46).apart hg9 (by omega)).lower (by omega)), hb9, (Nat.zero_le _), (Nat.le_trans hpl (by decide)), hps⟩
        simp [results, Tryz.results96, asAddr, hl]
      · have HD : Hid (decO geS (3 :: l) = none) := by
          unfold Hid
          rw [hDec, if_neg (by rintro ⟨_, _, h⟩; exact heq (by rw [el.out, h]))]
        have HQ := Lib.hid heq
        clear hDec heq hr hrb hr6 hlo
        go_wp2_with ((first
          | (go_at_call 161; refine hq.mono ?_; rintro e w7 ⟨v7, n7, rfl, hv7, rfl⟩; obtain rfl : v7 = false := Bool.eq_false_iff.2 fun h => HQ.out (hv7.1 h))
          | (refine wpList_store_blk (by rfl) _ (.tmp 2) (.tmp 43) rfl w.heap.size zcells rfl rfl 40 zcells (hB7.drewN n7) (by kernel_rfl) rfl (by decide) ?_; intro w8 hB8 hg8)))
        have hl := Go.run_loadVar_row (P := Tryz.prog) w8 w.heap.size 40 40 zcells.toArray (0, 0) _ hB8 Tryz.underlying40 rfl (by kernel_rfl)
        rw [HD.out]
        have hg9 : w6.grownBy w8 (some w.heap.size) := ⟨hg8.os, hg8.tape, hg8.output, hg8.size, hg8.block⟩
        refine bodyPost_ret (v := .tuple #[.agg zcells.toArray, .int .i64 2]) ?_ rfl ⟨rfl, hbe.grown hg9 hbe.size (fun k hk => by cases hk; exact Nat.le_refl _)⟩
        simp [results, Tryz.results96, asAddr, hl]
  · have hDec := dec_of (ge := geS) hPo.out
    have HD : Hid (decO geS (3 :: l) = none) := by
      unfold Hid
      rw [hDec, if_neg (by rw [hck]; simp)]
    clear hDec
    cases b3 with
    | true =>
      have e2 : w6.cell? ⟨w.heap.size + 1, 1, none⟩ = some (.int .i64 2) := e1
      clear e1
      go_wp2_with ((refine wpList_store_blk (by rfl) _ (.tmp 2) (.tmp 43) rfl w.heap.size zcells rfl rfl 40 zcells hB7 (by kernel_rfl) rfl (by decide) ?_; intro w8 hB8 hg8))
      have hl := Go.run_loadVar_row (P := Tryz.prog) w8 w.heap.size 40 40 zcells.toArray (0, 0) _ hB8 Tryz.underlying40 rfl (by kernel_rfl)
      rw [show decO geS (3 :: l) = none from HD.out]
      refine bodyPost_ret (v := .tuple #[.agg zcells.toArray, .int .i64 2]) ?_ rfl ⟨rfl, hbe.grown hg8 hbe.size (fun k hk => by cases hk; exact Nat.le_refl _)⟩
      simp [results, Tryz.results96, asAddr, hl]
    | false =>
      have e2 : w6.cell? ⟨w.heap.size + 1, 1, none⟩ = some (.int .i64 0) := e1
      clear e1
      go_wp2_with ((refine wpList_store_blk (by rfl) _ (.tmp 2) (.tmp 43) rfl w.heap.size zcells rfl rfl 40 zcells hB7 (by kernel_rfl) rfl (by decide) ?_; intro w8 hB8 hg8))
      have hl := Go.run_loadVar_row (P := Tryz.prog) w8 w.heap.size 40 40 zcells.toArray (0, 0) _ hB8 Tryz.underlying40 rfl (by kernel_rfl)
      rw [show decO geS (3 :: l) = none from HD.out]
      refine bodyPost_ret (v := .tuple #[.agg zcells.toArray, .int .i64 2]) ?_ rfl ⟨rfl, hbe.grown hg8 hbe.size (fun k hk => by cases hk; exact Nat.le_refl _)⟩
      simp [results, Tryz.results96, asAddr, hl]

set_option maxRecDepth 100000 in
set_option maxHeartbeats 8000000 in
theorem Decode4_calls (A : Option Addr) (l : List UInt8) (n c : Nat) (w : World) (hn : n = l.length + 1) (hr : Rd w w.heap.size 1 A n (bc (4 :: l))) (hc : n ≤ c) (hcm : c ≤ maxLen) (hl : l.length ≤ 140737488351231) :
    Calls Tryz.prog 96 #[.slice A n c] w (RetDec w (decO geS (4 :: l))) := by
  have d0 : ((n : Int) == 0) = false := beq_eq_false_iff_ne.2 (by omega)
  have hn0 : (0 : Int) < (n : Int) := by omega
  obtain ⟨m, A', c', em, jm, jm', ⟨rm, km, km'⟩, _, _, _, sm⟩ := sl_from (k := 1) (l := 4 :: l) (c := c) 1 rfl (by rw [List.length_cons, ← hn]; exact hr) (by simp) (by simp; omega) hcm
  rw [List.length_cons, ← hn] at sm jm
  obtain ⟨g, off, rfl, hg, hcell⟩ := hr.at_ (by omega)
  have hml : m = l := by rw [em.out]; rfl
  have hb1 : Below w.heap.size w (w.alloc (.cells #[.int .i64 0, .slice none 0 0, .slice none 0 0, .string ⟨#[]⟩, .slice none 0 0, .string ⟨#[]⟩, .string ⟨#[]⟩, .string ⟨#[]⟩, .int .i64 0, .string ⟨#[]⟩] 40)) := (Below.refl _ _).alloc (Nat.le_refl _) _
  have hb2 := hb1.alloc hb1.size (.cells #[.slice A' m.length c', .int .i64 0] 224)
  have hB1 := Blk.new w 40 zcells
  have hB2 := hB1.alloc (.cells #[.slice A' m.length c', .int .i64 0] 224)
  have hR2 := Blk.new (w.alloc (.cells #[.int .i64 0, .slice none 0 0, .slice none 0 0, .string ⟨#[]⟩, .slice none 0 0, .string ⟨#[]⟩, .string ⟨#[]⟩, .string ⟨#[]⟩, .int .i64 0, .string ⟨#[]⟩] 40)) 224 [.slice A' m.length c', .int .i64 0]
  have s1 : (w.alloc (.cells #[.int .i64 0, .slice none 0 0, .slice none 0 0, .string ⟨#[]⟩, .slice none 0 0, .string ⟨#[]⟩, .string ⟨#[]⟩, .string ⟨#[]⟩, .int .i64 0, .string ⟨#[]⟩] 40)).heap.size = w.heap.size + 1 := by simp
  have s2 : ((w.alloc (.cells #[.int .i64 0, .slice none 0 0, .slice none 0 0, .string ⟨#[]⟩, .slice none 0 0, .string ⟨#[]⟩, .string ⟨#[]⟩, .string ⟨#[]⟩, .int .i64 0, .string ⟨#[]⟩] 40)).alloc (.cells #[.slice A' m.length c', .int .i64 0] 224)).heap.size = w.heap.size + 2 := by simp
  rw [s1] at hR2
  have hRs : Rs ((w.alloc (.cells #[.int .i64 0, .slice none 0 0, .slice none 0 0, .string ⟨#[]⟩, .slice none 0 0, .string ⟨#[]⟩, .string ⟨#[]⟩, .string ⟨#[]⟩, .int .i64 0, .string ⟨#[]⟩] 40)).alloc (.cells #[.slice A' m.length c', .int .i64 0] 224)) (w.heap.size + 1) (w.heap.size + 1) m false := ⟨A', c', hR2, Far.of_rd ((rm.below hb2).more (by omega)) (by omega), km, km', by omega, Nat.le_refl _⟩
  have hx0 : ((w.alloc (.cells #[.int .i64 0, .slice none 0 0, .slice none 0 0, .string ⟨#[]⟩, .slice none 0 0, .string ⟨#[]⟩, .string ⟨#[]⟩, .string ⟨#[]⟩, .int .i64 0, .string ⟨#[]⟩] 40)).alloc (.cells #[.slice A' m.length c', .int .i64 0] 224)).cell? ⟨g, off, none⟩ = some (.int .u8 4) := by
    have := hcell 0 (.int .u8 4) rfl
    rw [← this]
    exact hb2.cell (p := ⟨g, off, none⟩) hg
  have hx1 : w.cell? ⟨g, off, none⟩ = some (.int .u8 4) := hcell 0 (.int .u8 4) rfl
  have hwx : IntKind.i64.wrap 4 = 4 := by rfl
  clear hcell
  have HN := Lib.hid hn
  have HML := Lib.hid hml
  clear hn hml
  go_enter Tryz.func96, Tryz.ntmps96
  go_wp2_with fail
  refine (body4_calls (w.heap.size + 1) (w.heap.size + 1) m _ hRs (by omega) (by have := HML.out; rw [this]; omega)).mono ?_
  rintro e w3 ⟨⟨ko, d, en, tr, pa, ta, na, wh, st, te⟩, Ad, cd, Ae, ce, Ap, cp, l3, b3, rfl, hdn, hen, hpn, hR3, hP, hb3, hel, hpl, hps⟩
  have hsh := hP.out.2
  injection hsh with x1 x2 x3 x4 x5 x6 x7 x8 x9 x10
  simp only [Obj.zero] at x1 x2 x3 x4 x5 x6 x7 x8 x9 x10

  subst x1 x2 x3 x4 x5
  have hPo := Lib.hid hP.out.1
  rw [HML.out] at hPo
  clear hP
  dsimp only at hel hpl hps hdn hen hpn ⊢
  go_wp2_with fail
  refine (made4_calls none 0 0 none 0 0 ⟨#[]⟩ none 0 0 ta na wh st te w3).mono ?_
  rintro e w4 ⟨rfl, hb4⟩
  have hs3 := hb3.size
  have hb34 := hb3.trans (hb4.mono (by omega))
  have hR4 := hR3.below hb4
  have hd4' := hdn.below hb4
  have he4' := hen.below hb4
  have hp4' := hpn.below hb4
  have hbo : Below w4.heap.size w4 (w4.alloc (.cells #[.int .i64 4, .slice none 0 0, .slice none 0 0, .string ⟨#[]⟩, .slice none 0 0, .string ta, .string na, .string wh, .int .i64 st, .string te] 40)) := (Below.refl _ _).alloc (Nat.le_refl _) _
  have hO := Blk.new w4 40 [.int .i64 4, .slice none 0 0, .slice none 0 0, .string ⟨#[]⟩, .slice none 0 0, .string ta, .string na, .string wh, .int .i64 st, .string te]
  have hd4 := hd4'.1.alive hbo
  have he4 := he4'.1.alive hbo
  have hp4 := hp4'.1.alive hbo
  have hB4 := hB2.below hb34 (by omega)
  have hE := Encode_calls 4 none [] 0 none [] 0 ⟨#[]⟩ none [] 0 ta na wh st te (w4.alloc (.cells #[.int .i64 4, .slice none 0 0, .slice none 0 0, .string ⟨#[]⟩, .slice none 0 0, .string ta, .string na, .string wh, .int .i64 st, .string te] 40)) Rd.nil Rd.nil Rd.nil (Nat.zero_le _) (Nat.zero_le _) (Lib.hid (by simp))
  obtain ⟨z0, z1, z2, z3, z4, z5, z6, z7, z8, z9⟩ := obj_cells hO
  clear hRs hx0 hx1 hR2 hB1
  go_wp2_with fail
  refine hE.mono ?_
  rintro e w6 ⟨hb6, hR6⟩
  have hb46 := hbo.next hb6
  have hR7 := hR4.below hb46
  have hB7 := hB4.below hb46 hB4.lt
  have hO7 := hO.below hb6 hO.lt
  have hs34 := hb34.size
  have hbe : Below w.heap.size w w6 := hb2.trans ((hb34.mono (by omega)).trans (hb46.mono (by omega)))
  obtain ⟨Ar, cr, hRb, _⟩ := id hR7
  have e1 : w6.cell? ⟨w.heap.size + 1, 1, none⟩ = some (.int .i64 (errB b3)) := by rw [hRb.cell]; rfl
  clear z0 z1 z2 z3 z4 z5 z6 z7 z8 z9 hE
  rcases hR6 with ⟨hck, lo, Ao, co, el, rfl, ho6⟩ | ⟨hck, rfl⟩
  · have hDec := dec_of (ge := geS) hPo.out
    have HCK := Lib.hid hck
    cases b3 with
    | true =>
      have e2 : w6.cell? ⟨w.heap.size + 1, 1, none⟩ = some (.int .i64 2) := e1
      have HD : Hid (decO geS (4 :: l) = none) := by
        unfold Hid
        rw [hDec, if_neg (by simp)]
      clear e1 hDec hck
      go_wp2_with ((refine wpList_store_blk (by rfl) _ (.tmp 2) (.tmp 43) rfl w.heap.size zcells rfl rfl 40 zcells hB7 (by kernel_rfl) rfl (by decide) ?_; intro w8 hB8 hg8))
      have hl := Go.run_loadVar_row (P := Tryz.prog) w8 w.heap.size 40 40 zcells.toArray (0, 0) _ hB8 Tryz.underlying40 rfl (by kernel_rfl)
      rw [show decO geS (4 :: l) = none from HD.out]
      refine bodyPost_ret (v := .tuple #[.agg zcells.toArray, .int .i64 2]) ?_ rfl ⟨rfl, hbe.grown hg8 hbe.size (fun k hk => by cases hk; exact Nat.le_refl _)⟩
      simp [results, Tryz.results96, asAddr, hl]
    | false =>
      have e2 : w6.cell? ⟨w.heap.size + 1, 1, none⟩ = some (.int .i64 0) := e1
      clear e1
      have hr6 := Rd.of_own ho6
      have hrb : Rd w6 w6.heap.size 1 (some ⟨g, off, none⟩) (4 :: l).length (bc (4 :: l)) := by
        have := (hr.below hbe).more hbe.size
        rwa [HN.out] at this
      have hlo : lo.length ≤ 140737488355328 := by
        by_cases h : lo.length ≤ 140737488355328
        · exact h
        · exfalso
          have h1 := el.out
          have h2 := enc_small hck
          rw [← h1] at h2
          omega
      have hnl : n = (4 :: l).length := by rw [List.length_cons]; exact HN.out
      have hq := EqualB_calls Ao lo co (some ⟨g, off, none⟩) (4 :: l) c w6 _ _ hr6 hrb hlo (by simp; omega)
      rw [← hnl] at hq
      have HNL := Lib.hid hnl
      clear hck hnl
      by_cases heq : lo = 4 :: l
      · have HD : Hid (decO geS (4 :: l) = some ⟨4, [], [], ⟨#[]⟩, [], ta, na, wh, st, te⟩) := by
          unfold Hid
          rw [hDec, if_pos ⟨rfl, HCK.out, by rw [← el.out]; exact heq⟩]
        have HQ := Lib.hid heq
        clear hDec heq hr hrb hr6 hlo
        obtain ⟨z0, z1, z2, z3, z4, z5, z6, z7, z8, z9⟩ := obj_cells hO7
        go_wp2_with ((first
          | (go_at_call 161; refine hq.mono ?_; rintro e w7 ⟨v7, n7, rfl, hv7, rfl⟩; obtain rfl := hv7.2 HQ.out)
          | (refine wpList_store_blk (by rfl) _ (.tmp 2) (.tmp 44) rfl w.heap.size [.int .i64 4, .slice none 0 0, .slice none 0 0, .string ⟨#[]⟩, .slice none 0 0, .string ta, .string na, .string wh, .int .i64 st, .string te] rfl rfl 40 zcells (hB7.drewN n7) (by kernel_rfl) rfl (o_one _ _ _ _ _ _ _ _ _ _ rfl rfl rfl) ?_; intro w8 hB8 hg8)))
        have hl := Go.run_loadVar_row (P := Tryz.prog) w8 w.heap.size 40 40 #[.int .i64 4, .slice none 0 0, .slice none 0 0, .string ⟨#[]⟩, .slice none 0 0, .string ta, .string na, .string wh, .int .i64 st, .string te] (0, 0) _ hB8 Tryz.underlying40 rfl (by kernel_rfl)
        rw [HD.out]
        have hg9 : w6.grownBy w8 (some w.heap.size) := ⟨hg8.os, hg8.tape, hg8.output, hg8.size, hg8.block⟩
        have hb9 : Below w.heap.size w w8 := hbe.grown hg9 hbe.size (fun k hk => by cases hk; exact Nat.le_refl _)
        refine bodyPost_ret (v := .tuple #[.agg #[.int .i64 4, .slice none 0 0, .slice none 0 0, .string ⟨#[]⟩, .slice none 0 0, .string ta, .string na, .string wh, .int .i64 st, .string te], .int .i64 0]) ?_ rfl ⟨4, none, [], 0, none, [], 0, ⟨#[]⟩, none, [], 0, ta, na, wh, st, te, rfl, rfl, RdN.nil, RdN.nil, RdN.nil, hb9, (Nat.zero_le _), (Nat.zero_le _), (Lib.hid (by simp))⟩
        simp [results, Tryz.results96, asAddr, hl]
      · have HD : Hid (decO geS (4 :: l) = none) := by
          unfold Hid
          rw [hDec, if_neg (by rintro ⟨_, _, h⟩; exact heq (by rw [el.out, h]))]
        have HQ := Lib.hid heq
        clear hDec heq hr hrb hr6 hlo
        go_wp2_with ((first
          | (go_at_call 161; refine hq.mono ?_; rintro e w7 ⟨v7, n7, rfl, hv7, rfl⟩; obtain rfl : v7 = false := Bool.eq_false_iff.2 fun h => HQ.out (hv7.1 h))
          | (refine wpList_store_blk (by rfl) _ (.tmp 2) (.tmp 43) rfl w.heap.size zcells rfl rfl 40 zcells (hB7.drewN n7) (by kernel_rfl) rfl (by decide) ?_; intro w8 hB8 hg8)))
        have hl := Go.run_loadVar_row (P := Tryz.prog) w8 w.heap.size 40 40 zcells.toArray (0, 0) _ hB8 Tryz.underlying40 rfl (by kernel_rfl)
        rw [HD.out]
        have hg9 : w6.grownBy w8 (some w.heap.size) := ⟨hg8.os, hg8.tape, hg8.output, hg8.size, hg8.block⟩
        refine bodyPost_ret (v := .tuple #[.agg zcells.toArray, .int .i64 2]) ?_ rfl ⟨rfl, hbe.grown hg9 hbe.size (fun k hk => by cases hk; exact Nat.le_refl _)⟩
        simp [results, Tryz.results96, asAddr, hl]
  · have hDec := dec_of (ge := geS) hPo.out
    have HD : Hid (decO geS (4 :: l) = none) := by
      unfold Hid
      rw [hDec, if_neg (by rw [hck]; simp)]
    clear hDec
    cases b3 with
    | true =>
      have e2 : w6.cell? ⟨w.heap.size + 1, 1, none⟩ = some (.int .i64 2) := e1
      clear e1
      go_wp2_with ((refine wpList_store_blk (by rfl) _ (.tmp 2) (.tmp 43) rfl w.heap.size zcells rfl rfl 40 zcells hB7 (by kernel_rfl) rfl (by decide) ?_; intro w8 hB8 hg8))
      have hl := Go.run_loadVar_row (P := Tryz.prog) w8 w.heap.size 40 40 zcells.toArray (0, 0) _ hB8 Tryz.underlying40 rfl (by kernel_rfl)
      rw [show decO geS (4 :: l) = none from HD.out]
      refine bodyPost_ret (v := .tuple #[.agg zcells.toArray, .int .i64 2]) ?_ rfl ⟨rfl, hbe.grown hg8 hbe.size (fun k hk => by cases hk; exact Nat.le_refl _)⟩
      simp [results, Tryz.results96, asAddr, hl]
    | false =>
      have e2 : w6.cell? ⟨w.heap.size + 1, 1, none⟩ = some (.int .i64 0) := e1
      clear e1
      go_wp2_with ((refine wpList_store_blk (by rfl) _ (.tmp 2) (.tmp 43) rfl w.heap.size zcells rfl rfl 40 zcells hB7 (by kernel_rfl) rfl (by decide) ?_; intro w8 hB8 hg8))
      have hl := Go.run_loadVar_row (P := Tryz.prog) w8 w.heap.size 40 40 zcells.toArray (0, 0) _ hB8 Tryz.underlying40 rfl (by kernel_rfl)
      rw [show decO geS (4 :: l) = none from HD.out]
      refine bodyPost_ret (v := .tuple #[.agg zcells.toArray, .int .i64 2]) ?_ rfl ⟨rfl, hbe.grown hg8 hbe.size (fun k hk => by cases hk; exact Nat.le_refl _)⟩
      simp [results, Tryz.results96, asAddr, hl]

theorem Decode_calls (A : Option Addr) (b : List UInt8) (c : Nat) (w : World) (hr : Rd w w.heap.size 1 A b.length (bc b)) (hc : b.length ≤ c) (hcm : c ≤ maxLen) (hl : b.length ≤ 140737488351232) :
    Calls Tryz.prog 96 #[.slice A b.length c] w (RetDec w (decO geS b)) := by
  cases b with
  | nil => exact Decode0_calls A c w
  | cons x l =>
    have hll : l.length ≤ 140737488351231 := by rw [List.length_cons] at hl; omega
    by_cases h1 : x = 1
    · subst h1
      exact Decode1_calls A l _ c w rfl hr hc hcm hll
    by_cases h2 : x = 2
    · subst h2
      exact Decode2_calls A l _ c w rfl hr hc hcm hll
    by_cases h3 : x = 3
    · subst h3
      exact Decode3_calls A l _ c w rfl hr hc hcm hll
    by_cases h4 : x = 4
    · subst h4
      exact Decode4_calls A l _ c w rfl hr hc hcm hll
    have hd : decO geS (x :: l) = none := by
      have hp : parseO (x :: l) = none := by
        show parseK x l = none
        unfold parseK
        rw [if_neg h1, if_neg h2, if_neg h3, if_neg h4]
      unfold decO
      rw [hp]
    rw [hd]
    exact DecodeN_calls A x l _ c w rfl hr hc hcm h1 h2 h3 h4
end Go.Proofs.YtecpbcmpncgokaaGreat
