/- What a sweep leaves on a calm disk, in plain Lean: all files but those whose names end by the sign of shadows. No program is in sight. Conditions: as each lemma names. -/
import Derived.Test.YtegolgkagdlocaaSwp
namespace Go.Dol
open Go.RowKit
set_option linter.unusedVariables false
theorem drop_filter {l : List Fil} (h : InOrder l) (n : ByteArray) : dropF l n = l.filter fun f => decide (f.1 ≠ n) := by
  induction l with
  | nil => rfl
  | cons f r ih =>
    unfold dropF
    by_cases h1 : sLt f.1 n = true
    · rw [if_pos h1, List.filter_cons, if_pos (decide_eq_true (sLt_ne h1)), ih h.tail]
    · rw [if_neg h1]
      by_cases h2 : f.1 = n
      · rw [if_pos h2, List.filter_cons, if_neg (by simp [h2])]
        refine (List.filter_eq_self.2 fun g hg => ?_).symm
        have h3 := h.head g hg
        rw [h2] at h3
        exact decide_eq_true (sLt_ne h3).symm
      · rw [if_neg h2]
        have hlt : sLt n f.1 = true := sLt_total (by simpa using h1) h2
        refine (List.filter_eq_self.2 fun g hg => ?_).symm
        rcases List.mem_cons.1 hg with rfl | hg
        · exact decide_eq_true h2
        · exact decide_eq_true (sLt_ne (sLt_trans hlt (h.head g hg))).symm
/-- A calm disk, whatever its files cost together. -/
structure CalmW (D : Dk) : Prop where
  left : D.left = -1
  dark : D.dark = false
theorem CalmW.spend {D : Dk} (h : CalmW D) (l' : List Fil) : spendD D l' = (0, { D with done := D.done + 1, l := l' }) := by
  unfold spendD
  rw [if_neg (by rw [h.left]; decide), if_neg (by rw [h.left]; decide)]
theorem CalmW.rem {D : Dk} (h : CalmW D) {n : ByteArray} (hn : nameB n = true) (hl : (lookF D.l n).isSome = true) : remD D n = (0, { D with done := D.done + 1, l := dropF D.l n }) := by
  have ht : touchD D n = 0 := by
    unfold touchD
    rw [if_neg (by rw [hn]; decide), if_neg (by rw [h.dark]; decide), if_pos hl]
  unfold remD
  rw [if_neg (by rw [ht]; simp), h.spend]
/-- A sweep over names that are there. -/
theorem sweepL_calm (ns : List ByteArray) : ∀ (D : Dk), CalmW D → InOrder D.l → ns.Nodup → (∀ n ∈ ns, nameB n = true ∧ (lookF D.l n).isSome = true) →
    ∃ E, sweepL D ns = (0, E) ∧ CalmW E ∧ E.cap = D.cap ∧ E.l = D.l.filter fun f => !(endsT f.1 && ns.any fun n => decide (f.1 = n)) := by
  induction ns with
  | nil =>
    intro D hC hO _ _
    refine ⟨D, rfl, hC, rfl, ?_⟩
    exact (List.filter_eq_self.2 fun f _ => by simp).symm
  | cons n r ih =>
    intro D hC hO hN hA
    obtain ⟨hn1, hn2⟩ := List.nodup_cons.1 hN
    obtain ⟨hb, hl⟩ := hA n (List.mem_cons_self ..)
    rw [sweepL_cons]
    cases hT : endsT n with
    | false =>
      rw [if_neg (by decide)]
      obtain ⟨E, h1, h2, h3, h4⟩ := ih D hC hO hn2 fun x hx => hA x (List.mem_cons_of_mem _ hx)
      refine ⟨E, h1, h2, h3, ?_⟩
      rw [h4]
      refine List.filter_congr fun f _ => ?_
      by_cases he : f.1 = n
      · rw [he, hT]
        rfl
      · rw [List.any_cons, decide_eq_false he, Bool.false_or]
    | true =>
      have hr := hC.rem hb hl
      rw [if_pos rfl, hr, if_neg (by simp)]
      obtain ⟨E, h1, h2, h3, h4⟩ := ih { D with done := D.done + 1, l := dropF D.l n } ⟨hC.left, hC.dark⟩ (drop_order hO) hn2 fun x hx => by
        obtain ⟨q1, q2⟩ := hA x (List.mem_cons_of_mem _ hx)
        refine ⟨q1, ?_⟩
        show (lookF (dropF D.l n) x).isSome = true
        rw [look_drop hO, if_neg (fun e => hn1 (by rw [← e]; exact hx))]
        exact q2
      refine ⟨E, h1, h2, h3, ?_⟩
      rw [h4]
      show (dropF D.l n).filter _ = _
      rw [drop_filter hO, List.filter_filter]
      refine List.filter_congr fun f _ => ?_
      by_cases he : f.1 = n
      · rw [he, hT, List.any_cons]
        simp
      · rw [List.any_cons, decide_eq_false he, Bool.false_or, decide_eq_true he, Bool.and_true]
theorem order_nodup {l : List Fil} (h : InOrder l) : (l.map Prod.fst).Nodup := by
  induction l with
  | nil => exact List.nodup_nil
  | cons f r ih =>
    rw [List.map_cons]
    refine List.nodup_cons.2 ⟨fun hm => ?_, ih h.tail⟩
    obtain ⟨g, hg, he⟩ := List.mem_map.1 hm
    have h1 := h.head g hg
    rw [he, sLt_irrefl] at h1
    cases h1
theorem sweep_calm {L B : Nat} {D : Dk} (hK : OkG L B D) (hC : CalmW D) : ∃ E, sweepD D = (0, E) ∧ CalmW E ∧ E.cap = D.cap ∧ E.l = D.l.filter fun f => !endsT f.1 := by
  obtain ⟨E, h1, h2, h3, h4⟩ := sweepL_calm (D.l.map Prod.fst) D hC hK.ord (order_nodup hK.ord) fun n hn => by
    obtain ⟨f, hf, rfl⟩ := List.mem_map.1 hn
    refine ⟨hK.names f hf, ?_⟩
    rw [(look_some hK.ord).2 (by exact hf : (f.1, f.2) ∈ D.l)]
    rfl
  refine ⟨E, h1, h2, h3, ?_⟩
  rw [h4]
  refine List.filter_congr fun f hf => ?_
  rw [List.any_eq_true.2 ⟨f.1, List.mem_map.2 ⟨f, hf, rfl⟩, decide_eq_true rfl⟩, Bool.and_true]
end Go.Dol
