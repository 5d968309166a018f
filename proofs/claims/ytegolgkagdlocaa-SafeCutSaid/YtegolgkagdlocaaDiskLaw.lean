/- What keeps a disk in good order, in plain Lean. No program is in sight. Conditions: none beyond what each lemma names. -/
import Derived.Test.YtegolgkagdlocaaDiskSpec
namespace Go.Dol
open Go.RowKit
set_option linter.unusedVariables false

/-- A disk in good order. -/
structure OkD (D : Dk) : Prop where
  ord : InOrder D.l
  cap0 : 0 ≤ D.cap
  cap1 : D.cap ≤ 1099511627776
  room : costs D.l ≤ D.cap
  left0 : -1 ≤ D.left
  left1 : D.left ≤ 9223372036854775807
  names : ∀ f ∈ D.l, nameB f.1 = true

theorem wrap_in {x : Int} (h : -9223372036854775808 ≤ x) (h2 : x ≤ 9223372036854775807) : IntKind.i64.wrap x = x := IntWalk.i64_in _ ⟨h, h2⟩
theorem wrap_sub (x y : Int) : IntKind.i64.wrap (IntKind.i64.wrap x - y) = IntKind.i64.wrap (x - y) := by
  simp only [IntKind.wrap, IntKind.bits, IntKind.signed]
  simp
  split <;> split <;> split <;> omega
theorem OkD.free {D : Dk} (h : OkD D) : frD D = D.cap - costs D.l := by
  have h1 := costs_nonneg D.l
  have h2 := h.cap1
  have h3 := h.room
  exact wrap_in (by omega) (by omega)
/-- What is free behind a raw write that costs more. -/
theorem free_turn {D D' : Dk} {more : Int} (hc : D'.cap = D.cap) (hl : costs D'.l = costs D.l + more) : frD D' = IntKind.i64.wrap (frD D - more) := by
  unfold frD
  rw [wrap_sub, hc, hl]
  congr 1
  omega
theorem OkD.look {D : Dk} (h : OkD D) {n : ByteArray} {b : List UInt8} (hb : lookF D.l n = some b) : 16 + (n.size : Int) + b.length ≤ D.cap := by
  have h1 := costs_drop hb
  have h2 := costs_nonneg (dropF D.l n)
  have h3 := h.room
  unfold costF at h1
  simp only at h1
  omega
theorem OkD.small {D : Dk} (h : OkD D) {n : ByteArray} {b : List UInt8} (hb : lookF D.l n = some b) : b.length ≤ 140737488355328 := by
  have h1 := h.look hb
  have h2 := h.cap1
  omega
theorem OkD.named {D : Dk} (h : OkD D) {n : ByteArray} {b : List UInt8} (hb : lookF D.l n = some b) : nameB n = true := h.names _ ((look_some h.ord).1 hb)
/-- What more it costs that a file holds these bytes. -/
theorem costs_putF {l : List Fil} (h : InOrder l) (n : ByteArray) (b : List UInt8) : costs (putF l n b) = costs l + (match lookF l n with | none => 16 + (n.size : Int) + b.length | some c => (b.length : Int) - c.length) := by
  rw [costs_put]
  cases hn : lookF l n with
  | none =>
    rw [drop_none hn]
    unfold costF
    simp only
    omega
  | some c =>
    have := costs_drop hn
    unfold costF at this ⊢
    simp only at this ⊢
    omega
theorem costs_dropF {l : List Fil} {n : ByteArray} {b : List UInt8} (h : lookF l n = some b) : costs (dropF l n) = costs l - (16 + (n.size : Int) + b.length) := by
  have := costs_drop h
  unfold costF at this
  simp only at this
  omega
theorem names_put {l : List Fil} (h : ∀ f ∈ l, nameB f.1 = true) {n : ByteArray} (hn : nameB n = true) (b : List UInt8) : ∀ f ∈ putF l n b, nameB f.1 = true := by
  intro f hf
  rcases put_mem f hf with e | hm
  · rw [e]
    exact hn
  · exact h f hm
theorem names_drop {l : List Fil} (h : ∀ f ∈ l, nameB f.1 = true) (n : ByteArray) : ∀ f ∈ dropF l n, nameB f.1 = true := fun f hf => h f (drop_mem f hf)

/-- A raw write keeps the order, where there is room. -/
theorem OkD.spend {D : Dk} (h : OkD D) {l' : List Fil} (h1 : InOrder l') (h2 : costs l' ≤ D.cap) (h3 : ∀ f ∈ l', nameB f.1 = true) : OkD (spendD D l').2 := by
  have a0 := h.left0
  have a1 := h.left1
  unfold spendD
  split
  · exact ⟨h.ord, h.cap0, h.cap1, h.room, by simp, by simp, h.names⟩
  · refine ⟨h1, h.cap0, h.cap1, h2, ?_, ?_, h3⟩ <;> simp only <;> split <;> omega
theorem OkD.app {D : Dk} (h : OkD D) (n : ByteArray) (b : List UInt8) : OkD (appD D n b).2 := by
  unfold appD
  split
  · exact h
  · rename_i h1
    split
    · exact h
    · unfold roomD
      split
      · exact h
      · rename_i h3
        have hn : nameB n = true := by
          cases hB : nameB n with
          | true => rfl
          | false => exact absurd (.inr hB) h1
        refine h.spend (put_order h.ord) ?_ (names_put h.names hn _)
        rw [h.free] at h3
        have hp := costs_putF h.ord n ((lookF D.l n).getD [] ++ b)
        have hr := h.room
        unfold appMore at h3
        cases hl : lookF D.l n with
        | none =>
          rw [hl] at hp h3
          simp only [Option.getD_none, List.nil_append] at hp h3 ⊢
          rw [hp]
          omega
        | some c =>
          rw [hl] at hp h3
          simp only [Option.getD_some, List.length_append] at hp h3 ⊢
          rw [hp]
          omega
theorem OkD.rem {D : Dk} (h : OkD D) (n : ByteArray) : OkD (remD D n).2 := by
  unfold remD
  split
  · exact h
  · refine h.spend (drop_order h.ord) ?_ (names_drop h.names n)
    have hr := h.room
    cases hl : lookF D.l n with
    | none => rw [drop_none hl]; exact hr
    | some b => have := costs_dropF hl; omega
theorem OkD.sync {D : Dk} (h : OkD D) (n : ByteArray) : OkD (syncD D n).2 := by
  unfold syncD
  split
  · exact h
  · exact h.spend h.ord h.room h.names
theorem touch_zero {D : Dk} {n : ByteArray} (h : touchD D n = 0) : nameB n = true ∧ D.dark = false ∧ ∃ b, lookF D.l n = some b := by
  unfold touchD at h
  cases hB : nameB n with
  | false => rw [if_pos hB] at h; cases h
  | true =>
    cases hd : D.dark with
    | true => rw [if_neg (by rw [hB]; decide), if_pos hd] at h; cases h
    | false =>
      rw [if_neg (by rw [hB]; decide), if_neg (by rw [hd]; decide)] at h
      cases hl : lookF D.l n with
      | none => rw [hl] at h; cases h
      | some b => exact ⟨rfl, rfl, b, rfl⟩
/-- What more a renaming costs. -/
def renMore (D : Dk) (a b : ByteArray) : Int := if a = b then 0 else (b.size : Int) - a.size - (match lookF D.l b with | none => 0 | some c => 16 + (b.size : Int) + c.length)
theorem costs_ren {D : Dk} (h : InOrder D.l) {a b : ByteArray} {c : List UInt8} (ha : lookF D.l a = some c) : costs (putF (dropF D.l a) b c) = costs D.l + renMore D a b := by
  have h1 := costs_putF (drop_order (n := a) h) b c
  have h2 := costs_dropF ha
  rw [h1, h2, look_drop h]
  unfold renMore
  by_cases hab : a = b
  · subst hab
    rw [if_pos rfl, if_pos rfl]
    simp only
    omega
  · rw [if_neg (fun e => hab e.symm), if_neg hab]
    cases lookF D.l b with
    | none => simp only; omega
    | some d => simp only; omega
/-- The code's question for room is the document's. -/
theorem ren_room {D : Dk} {a b : ByteArray} {c : List UInt8} (ha : lookF D.l a = some c) (hb : nameB b = true) (hna : nameB a = true) :
    (0 < renMore D a b ∧ frD D < renMore D a b) ↔ (0 < renNeed D a b ∧ frD D < renNeed D a b) := by
  have hb1 : b.size ≤ 200 := by
    unfold nameB at hb
    simp only [Bool.and_eq_true, decide_eq_true_eq] at hb
    exact hb.1.2
  unfold renMore renNeed
  by_cases hab : a = b
  · subst hab
    rw [if_pos rfl, ha]
  · rw [if_neg hab]
    cases hl : lookF D.l b with
    | none => simp only; omega
    | some d => simp only; omega
theorem OkD.ren {D : Dk} (h : OkD D) (a b : ByteArray) : OkD (renD D a b).2 := by
  unfold renD
  split
  · exact h
  · rename_i h1
    split
    · exact h
    · rename_i h2
      obtain ⟨hna, _, c, hc⟩ := touch_zero (Decidable.not_not.1 h2)
      have hnb : nameB b = true := by
        cases hB : nameB b with
        | true => rfl
        | false => exact absurd (.inr hB) h1
      unfold roomD
      split
      · exact h
      · rename_i h3
        rw [hc, Option.getD_some]
        refine h.spend (put_order (drop_order h.ord)) ?_ (names_put (names_drop h.names a) hnb _)
        rw [← ren_room hc hnb hna, h.free] at h3
        have := costs_ren h.ord (b := b) hc
        have hr := h.room
        omega
theorem OkD.cut {D : Dk} (h : OkD D) {k : Int} (hk : k ≤ 9223372036854775807) : OkD (cutD D k).2 := by
  unfold cutD
  split
  · exact h
  · simp only
    split
    · exact h
    · exact ⟨h.ord, h.cap0, h.cap1, h.room, by simp only; omega, hk, h.names⟩
theorem OkD.on {D : Dk} (h : OkD D) : OkD (onD D) := ⟨h.ord, h.cap0, h.cap1, h.room, by simp [onD], by simp [onD], h.names⟩
/-- A disk in good order, whatever its files cost together: at most so many files, of at most so many bytes each. -/
structure OkG (L B : Nat) (D : Dk) : Prop where
  ord : InOrder D.l
  cap0 : 0 ≤ D.cap
  cap1 : D.cap ≤ 1099511627776
  left0 : -1 ≤ D.left
  left1 : D.left ≤ 9223372036854775807
  names : ∀ f ∈ D.l, nameB f.1 = true
  len : D.l.length ≤ L
  bytes : ∀ f ∈ D.l, f.2.length ≤ B
/-- They fit memory. -/
abbrev OkW (D : Dk) : Prop := OkG 3518437208880 140737488355264 D
theorem OkW.small {D : Dk} (h : OkW D) {n : ByteArray} {b : List UInt8} (hb : lookF D.l n = some b) : b.length ≤ 140737488355264 := h.bytes _ ((look_some h.ord).1 hb)
theorem OkW.small' {D : Dk} (h : OkW D) {n : ByteArray} {b : List UInt8} (hb : lookF D.l n = some b) : b.length ≤ 140737488355328 := by have := h.small hb; omega
theorem OkW.named {D : Dk} (h : OkW D) {n : ByteArray} {b : List UInt8} (hb : lookF D.l n = some b) : nameB n = true := h.names _ ((look_some h.ord).1 hb)
theorem OkD.toW {D : Dk} (h : OkD D) : OkW D := by
  have h1 : ∀ l : List Fil, 16 * (l.length : Int) ≤ costs l := by
    intro l
    induction l with
    | nil => show (16 * 0 : Int) ≤ 0; omega
    | cons f r ih => have := costF_pos f; simp only [costs, List.length_cons]; omega
  have h2 := h1 D.l
  have h3 := h.room
  have h4 := h.cap1
  refine ⟨h.ord, h.cap0, h.cap1, h.left0, h.left1, h.names, by omega, fun f hf => ?_⟩
  have h5 := h.look ((look_some h.ord).2 (by exact hf) : lookF D.l f.1 = some f.2)
  omega
instance {D : Dk} : Coe (OkD D) (OkW D) := ⟨OkD.toW⟩
end Go.Dol
