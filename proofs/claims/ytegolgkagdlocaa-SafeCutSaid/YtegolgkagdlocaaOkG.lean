/- What keeps a disk in good order, whatever its files cost together: commands, saves, sweeps. No program is in sight. Conditions: as each lemma names. -/
import Derived.Test.YtegolgkagdlocaaOkL
import Derived.Test.YtegolgkagdlocaaSafeLaw
namespace Go.Dol
open Go.RowKit
set_option linter.unusedVariables false
section
variable {L B : Nat} {D : Dk}
theorem put_len (l : List Fil) (n : ByteArray) (b : List UInt8) : (putF l n b).length = l.length + (match lookF l n with | none => 1 | some _ => 0) := by
  have h1 := (put_perm l n b).length_eq
  cases hl : lookF l n with
  | none =>
    rw [drop_none hl] at h1
    rw [h1]
    rfl
  | some c =>
    have h2 := (drop_perm hl).length_eq
    simp only [List.length_cons] at h1 h2
    rw [h1, h2]
    rfl
theorem drop_len (l : List Fil) (n : ByteArray) : (dropF l n).length ≤ l.length := by
  cases hl : lookF l n with
  | none => rw [drop_none hl]; omega
  | some c => have h2 := (drop_perm hl).length_eq; simp only [List.length_cons] at h2; omega
theorem OkG.mono {L' B' : Nat} (h : OkG L B D) (hL : L ≤ L') (hB : B ≤ B') : OkG L' B' D := ⟨h.ord, h.cap0, h.cap1, h.left0, h.left1, h.names, Nat.le_trans h.len hL, fun f hf => Nat.le_trans (h.bytes f hf) hB⟩
theorem OkG.named (h : OkG L B D) {n : ByteArray} {b : List UInt8} (hb : lookF D.l n = some b) : nameB n = true := h.names _ ((look_some h.ord).1 hb)
theorem OkG.look (h : OkG L B D) {n : ByteArray} {b : List UInt8} (hb : lookF D.l n = some b) : b.length ≤ B := h.bytes _ ((look_some h.ord).1 hb)
theorem OkG.spend (h : OkG L B D) {l' : List Fil} (h1 : InOrder l') (h2 : ∀ f ∈ l', nameB f.1 = true) (h3 : l'.length ≤ L) (h4 : ∀ f ∈ l', f.2.length ≤ B) : OkG L B (spendD D l').2 := by
  have a0 := h.left0
  have a1 := h.left1
  unfold spendD
  split
  · exact ⟨h.ord, h.cap0, h.cap1, by simp, by simp, h.names, h.len, h.bytes⟩
  · refine ⟨h1, h.cap0, h.cap1, ?_, ?_, h2, h3, h4⟩ <;> simp only <;> split <;> omega
theorem OkG.app (h : OkG L B D) (n : ByteArray) (b : List UInt8) (hl : lookF D.l n = none → D.l.length + 1 ≤ L) (hb : ((lookF D.l n).getD [] ++ b).length ≤ B) : OkG L B (appD D n b).2 := by
  unfold appD
  split
  · exact h
  · rename_i h1
    split
    · exact h
    · unfold roomD
      split
      · exact h
      · have hn : nameB n = true := by
          cases hB : nameB n with
          | true => rfl
          | false => exact absurd (.inr hB) h1
        refine h.spend (put_order h.ord) (names_put h.names hn _) ?_ fun f hf => ?_
        · rw [put_len]
          cases hl2 : lookF D.l n with
          | none => exact hl hl2
          | some c => exact h.len
        · rcases put_mem f hf with e | hm
          · rw [e]; exact hb
          · exact h.bytes f hm
theorem OkG.rem (h : OkG L B D) (n : ByteArray) : OkG L B (remD D n).2 := by
  unfold remD
  split
  · exact h
  · exact h.spend (drop_order h.ord) (names_drop h.names n) (Nat.le_trans (drop_len _ _) h.len) fun f hf => h.bytes f (drop_mem f hf)
theorem OkG.sync (h : OkG L B D) (n : ByteArray) : OkG L B (syncD D n).2 := by
  unfold syncD
  split
  · exact h
  · exact h.spend h.ord h.names h.len h.bytes
theorem OkG.ren (h : OkG L B D) (a b : ByteArray) : OkG L B (renD D a b).2 := by
  unfold renD
  split
  · exact h
  · rename_i h1
    split
    · exact h
    · rename_i h2
      obtain ⟨hna, _, c, hc⟩ := touch_zero (Decidable.not_not.1 h2)
      have hnb : nameB b = true := by
        cases hB : nameB b with
        | true => rfl
        | false => exact absurd (.inr hB) h1
      unfold roomD
      split
      · exact h
      · rw [hc, Option.getD_some]
        refine h.spend (put_order (drop_order h.ord)) (names_put (names_drop h.names a) hnb _) ?_ fun f hf => ?_
        · have h3 := (drop_perm hc).length_eq
          have h4 := put_len (dropF D.l a) b c
          have h5 := h.len
          simp only [List.length_cons] at h3
          rw [h4]
          cases lookF (dropF D.l a) b with
          | none => show _ + 1 ≤ L; omega
          | some c => show _ + 0 ≤ L; omega
        · rcases put_mem f hf with e | hm
          · rw [e]; exact h.look hc
          · exact h.bytes f (drop_mem f hm)
theorem OkG.cut (h : OkG L B D) {k : Int} (hk : k ≤ 9223372036854775807) : OkG L B (cutD D k).2 := by
  unfold cutD
  split
  · exact h
  · simp only
    split
    · exact h
    · exact ⟨h.ord, h.cap0, h.cap1, by simp only; omega, hk, h.names, h.len, h.bytes⟩
theorem OkG.on (h : OkG L B D) : OkG L B (onD D) := ⟨h.ord, h.cap0, h.cap1, by simp [onD], by simp [onD], h.names, h.len, h.bytes⟩
/-- What an append leaves: the files as they were, or the one longer. -/
theorem app_l (D : Dk) (n : ByteArray) (b : List UInt8) : (appD D n b).2.l = D.l ∨ (appD D n b).2.l = putF D.l n ((lookF D.l n).getD [] ++ b) := by
  unfold appD
  split
  · exact .inl rfl
  · split
    · exact .inl rfl
    · unfold roomD
      split
      · exact .inl rfl
      · unfold spendD
        split
        · exact .inl rfl
        · exact .inr rfl
theorem OkG.all (h : OkG L B D) {s : ByteArray} : ∀ cs : List (List UInt8), (lookF D.l s = none → D.l.length + 1 ≤ L) → ((lookF D.l s).getD [] ++ cs.flatten).length ≤ B → OkG L B (appAll D s cs).2 := by
  intro cs
  induction cs generalizing D with
  | nil => intro _ _; exact h
  | cons c r ih =>
    intro hl hb
    have hb' : ((lookF D.l s).getD [] ++ c).length ≤ B := by
      simp only [List.flatten_cons, List.length_append] at hb ⊢
      omega
    have h1 := h.app s c hl hb'
    unfold appAll
    split
    · exact h1
    · refine ih h1 ?_ ?_
      · rcases app_l D s c with e | e
        · rw [e]; exact hl
        · rw [e, look_put h.ord, if_pos rfl]
          intro h2
          cases h2
      · rcases app_l D s c with e | e
        · rw [e]
          simp only [List.flatten_cons, List.length_append] at hb ⊢
          omega
        · rw [e, look_put h.ord, if_pos rfl, Option.getD_some]
          simp only [List.flatten_cons, List.length_append] at hb ⊢
          omega
theorem chunks_len (b : List UInt8) : (chunksOf b).flatten.length ≤ b.length := by
  rw [chunksOf_flat]
  exact Nat.le_refl _
theorem OkG.pre (h : OkG L B D) {n : ByteArray} {b : List UInt8} (hs : (lookF D.l (shd n)).isSome = false) (hl : D.l.length + 1 ≤ L) (hb : b.length ≤ B) {pre r : List (List UInt8)} (hc : chunksOf b = pre ++ r) : OkG L B (appAll D (shd n) pre).2 := by
  have h1 := chunks_len b
  rw [hc, List.flatten_append, List.length_append] at h1
  have hs' : lookF D.l (shd n) = none := by cases hx : lookF D.l (shd n) with | none => rfl | some c => rw [hx] at hs; cases hs
  exact h.all (s := shd n) pre (fun _ => hl) (by rw [hs', Option.getD_none, List.nil_append]; omega)
theorem OkG.last (h : OkG L B D) (n : ByteArray) : OkG L B (lastD D n).2 := by
  unfold lastD
  split
  · exact h.sync _
  · exact (h.sync _).ren _ _
theorem OkG.laid (h : OkG L B D) (n : ByteArray) (b : List UInt8) (hs : lookF D.l (shd n) = none) (hl : D.l.length + 1 ≤ L) (hb : b.length ≤ B) : OkG L B (laidD D n b).2 := by
  have h1 := h.all (s := shd n) (chunksOf b) (fun _ => hl) (by rw [hs]; exact Nat.le_trans (chunks_len b) hb)
  unfold laidD
  split
  · exact h1
  · exact h1.last n
theorem OkG.tail (h : OkG L B D) (n : ByteArray) (b : List UInt8) (hs : lookF D.l (shd n) = none) (hl : D.l.length + 1 ≤ L) (hb : b.length ≤ B) : OkG L B (tailD D n b).2 := by
  unfold tailD
  split
  · exact h
  · exact h.laid n b hs hl hb
/-- A file that was taken away is gone. -/
theorem rem_gone (h : InOrder D.l) {n : ByteArray} (hz : (remD D n).1 = 0) : lookF (remD D n).2.l n = none ∧ (remD D n).2.l = dropF D.l n := by
  unfold remD at hz ⊢
  split
  · rename_i h1
    rw [if_pos h1] at hz
    exact absurd hz h1
  · rename_i h1
    rw [if_neg h1] at hz
    unfold spendD at hz ⊢
    split
    · rename_i h2
      rw [if_pos h2] at hz
      cases hz
    · exact ⟨by show lookF (dropF D.l n) n = none; rw [look_drop h, if_pos rfl], rfl⟩
theorem OkG.save (h : OkG L B D) (n : ByteArray) (b : List UInt8) (hl : D.l.length + 1 ≤ L) (hb : b.length ≤ B) : OkG L B (saveD D n b).2 := by
  unfold saveD
  split
  · exact h
  · split
    · exact h
    · split
      · split
        · exact h.rem _
        · rename_i h1
          obtain ⟨h2, h3⟩ := rem_gone h.ord (Decidable.not_not.1 h1)
          exact (h.rem _).tail n b h2 (by rw [h3]; exact Nat.le_trans (Nat.succ_le_succ (drop_len _ _)) hl) hb
      · rename_i h1
        exact h.tail n b (by cases hs : lookF D.l (shd n) with | none => rfl | some c => rw [hs] at h1; exact absurd rfl h1) hl hb
end
theorem OkD.lenW {D : Dk} (h : OkD D) : D.l.length ≤ 68719476736 := by
  have h1 := costs_len D.l
  have h2 := h.room
  have h3 := h.cap1
  omega
end Go.Dol
