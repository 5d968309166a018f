/- What a loading that goes through leaves: files in order that fit memory. No program is in sight. Conditions: as each lemma names. -/
import Derived.Test.YtegolgkagdlocaaRd5
namespace Go.Dol
open Go.RowKit
set_option linter.unusedVariables false
theorem loadL_mem {acc l m : List Fil} (h : loadL acc l = some m) : ∀ f ∈ m, f ∈ acc ∨ f ∈ l := by
  induction l generalizing acc with
  | nil =>
    have : acc = m := by simpa [loadL] using h
    subst this
    exact fun f hf => .inl hf
  | cons g q ih =>
    unfold loadL at h
    split at h
    · cases h
    · intro f hf
      rcases ih h f hf with h1 | h1
      · rcases put_mem f h1 with h2 | h2
        · exact .inr (by rw [h2]; exact List.mem_cons_self ..)
        · exact .inl h2
      · exact .inr (List.mem_cons_of_mem _ h1)
theorem put_end {l : List Fil} {n : ByteArray} {b : List UInt8} (h : ∀ f ∈ l, sLt f.1 n = true) : putF l n b = l ++ [(n, b)] := by
  induction l with
  | nil => rfl
  | cons f r ih =>
    unfold putF
    rw [if_pos (h f (List.mem_cons_self ..)), ih fun g hg => h g (List.mem_cons_of_mem _ hg)]
    rfl
/-- Files in order, loaded, are what they were. -/
theorem loadL_again {acc l : List Fil} (h : InOrder (acc ++ l)) (hn : ∀ f ∈ l, nameB f.1 = true) : loadL acc l = some (acc ++ l) := by
  induction l generalizing acc with
  | nil => simp [loadL]
  | cons f r ih =>
    obtain ⟨h1, h2, h3⟩ := List.pairwise_append.1 h
    have hlt : ∀ g ∈ acc, sLt g.1 f.1 = true := fun g hg => h3 g hg f (List.mem_cons_self ..)
    unfold loadL
    rw [if_neg, put_end hlt]
    · have e : acc ++ f :: r = (acc ++ [f]) ++ r := by simp
      rw [e] at h ⊢
      exact ih h fun g hg => hn g (List.mem_cons_of_mem _ hg)
    · rintro (h4 | h4)
      · rw [hn f (List.mem_cons_self ..)] at h4
        cases h4
      · rw [(look_none h1).2 fun g hg => sLt_ne (hlt g hg)] at h4
        cases h4
theorem loadD_some {cap k : Int} {l : List Fil} {D : Dk} (h : loadD cap l = (some D, k)) : k = 0 ∧ 0 ≤ cap ∧ cap ≤ 1099511627776 ∧ D.cap = cap ∧ loadL [] l = some D.l ∧ D = ⟨cap, D.l, 0, -1, false⟩ ∧ ¬ frD D < 0 := by
  unfold loadD at h
  by_cases hc : cap < 0 ∨ 1099511627776 < cap
  · rw [if_pos hc] at h
    cases h
  · rw [if_neg hc] at h
    cases hm : loadL [] l with
    | none => rw [hm] at h; cases h
    | some m =>
      rw [hm] at h
      simp only at h
      by_cases hf : frD ⟨cap, m, 0, -1, false⟩ < 0
      · rw [if_pos hf] at h
        cases h
      · rw [if_neg hf] at h
        injection h with h1 h2
        injection h1 with h1
        subst h1
        exact ⟨h2.symm, by omega, by omega, rfl, rfl, rfl, hf⟩
theorem loadD_again {cap k : Int} {l : List Fil} {D : Dk} (h : loadD cap l = (some D, k)) : loadD cap D.l = (some D, 0) := by
  obtain ⟨_, h0, h1, _, hl, hD, hf⟩ := loadD_some h
  have ho : InOrder D.l := loadL_order hl List.Pairwise.nil
  have hn : ∀ f ∈ D.l, nameB f.1 = true := loadL_names hl (fun f hf => (List.not_mem_nil hf).elim)
  have h2 : loadL [] D.l = some D.l := loadL_again (acc := []) ho hn
  unfold loadD
  rw [if_neg (by omega), h2]
  simp only
  rw [← hD, if_neg hf]
end Go.Dol
namespace Go.Proofs.Ytegolgkagdlocaa
open Go.RowKit Go.Dol
set_option linter.unusedVariables false
theorem loadD_ok {cap k : Int} {fs : List FilA} {D : Dk} (h : loadD cap (fs.map FilA.f) = (some D, k)) (hnl : fs.length ≤ 3518437208880) (hsm : ∀ x ∈ fs, x.n.size ≤ 140737488355328 ∧ x.b.length ≤ 140737488355328) : OkL D := by
  obtain ⟨_, h0, h1, hc, hl, hD, hf⟩ := loadD_some h
  refine ⟨loadL_order hl List.Pairwise.nil, by omega, by omega, loadL_names hl (fun f hf => (List.not_mem_nil hf).elim), ?_, fun f hf => ?_⟩
  · have h2 := loadL_len hl
    rw [List.length_map, List.length_nil] at h2
    omega
  · rcases loadL_mem hl f hf with h2 | h2
    · exact (List.not_mem_nil h2).elim
    · obtain ⟨x, hx, rfl⟩ := List.mem_map.1 h2
      exact (hsm x hx).2
/-- A disk that was loaded is in good order, and calm. -/
theorem loadD_okG {cap k : Int} {fs : List FilA} {D : Dk} (h : loadD cap (fs.map FilA.f) = (some D, k)) (hnl : fs.length ≤ 3518437208780) (hsm : ∀ x ∈ fs, x.n.size ≤ 140737488351232 ∧ x.b.length ≤ 140737488351232) :
    OkG 3518437208780 140737488351232 D ∧ D.left = -1 ∧ D.dark = false ∧ D.cap = cap ∧ D.done = 0 := by
  obtain ⟨_, h0, h1, hc, hl, hD, hf⟩ := loadD_some h
  have e1 : D.left = -1 := by rw [hD]
  have e2 : D.dark = false := by rw [hD]
  have e3 : D.done = 0 := by rw [hD]
  refine ⟨⟨loadL_order hl List.Pairwise.nil, by omega, by omega, by omega, by omega, loadL_names hl (fun f hf => (List.not_mem_nil hf).elim), ?_, fun f hf => ?_⟩, e1, e2, hc, e3⟩
  · have h2 := loadL_len hl
    rw [List.length_map, List.length_nil] at h2
    omega
  · rcases loadL_mem hl f hf with h2 | h2
    · exact (List.not_mem_nil h2).elim
    · obtain ⟨x, hx, rfl⟩ := List.mem_map.1 h2
      exact (hsm x hx).2
end Go.Proofs.Ytegolgkagdlocaa
