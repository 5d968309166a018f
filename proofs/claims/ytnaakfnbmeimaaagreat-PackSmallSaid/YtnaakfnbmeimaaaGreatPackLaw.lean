/- Plain laws of the layer 'pack': an object's bytes are short; small changes are small; parts' depths and ids. No program is in sight. Conditions: none. -/
import Derived.Test.YtnaakfnbmeimaaaGreatPackSpec
namespace Go.Dol
set_option linter.unusedVariables false
def szs (l : List Pt) : Nat := (l.map (·.size)).foldr (· + ·) 0
theorem szs_cons (p : Pt) (l : List Pt) : szs (p :: l) = p.size + szs l := rfl
theorem szs_nil : szs [] = 0 := rfl
/-- Each object is told by the one ahead in few bytes. -/
def near (D : Nat) : List UInt8 → List (List UInt8) → Prop
  | _, [] => True
  | p, r :: rs => 0 < p.length ∧ p.head? = r.head? ∧ (encL p r).length ≤ D ∧ near D r rs
theorem keepL_told {prev raw : List UInt8} {d D : Nat} (h : mayTell prev d raw = true) (hD : (encL prev raw).length ≤ D) : (keepL prev d raw).2.length ≤ D := by
  unfold keepL
  split
  · exact hD
  · rename_i h2
    have : ¬ (encL prev raw).length < (keep1 raw).2.length := fun h3 => h2 ⟨h, h3⟩
    omega
theorem near_cost (M D : Nat) : ∀ (rs : List (List UInt8)) (prev : List UInt8) (d : Nat), d ≤ 7 → near D prev rs → (∀ r ∈ rs, r.length ≤ M) → szs (ptsOf prev d rs) ≤ M * ((rs.length + d) / 8) + D * rs.length
  | [], prev, d, _, _, _ => by simp [ptsOf, szs_nil]
  | r :: rs, prev, d, hd, hn, hM => by
    obtain ⟨h1, h2, h3, h4⟩ := hn
    have hdep := keepL_depth (prev := prev) (raw := r) hd
    have ih := near_cost M D rs r (nextD d (keepL prev d r).1) hdep h4 fun q hq => hM q (List.mem_cons_of_mem _ hq)
    rw [ptsOf, szs_cons, List.length_cons]
    simp only
    rcases Nat.lt_or_ge d 7 with h7 | h7
    · have hk := keepL_told (mayTell_is.2 ⟨h1, h2, h7⟩) h3
      have hdn : nextD d (keepL prev d r).1 ≤ d + 1 := by unfold nextD; split <;> omega
      have hq : (rs.length + nextD d (keepL prev d r).1) / 8 ≤ (rs.length + 1 + d) / 8 := Nat.div_le_div_right (by omega)
      have hm := Nat.mul_le_mul_left M hq
      rw [Nat.mul_add]
      omega
    · have hk1 := keepL_len prev d r
      have hk2 := hM r (List.mem_cons_self ..)
      have hno : mayTell prev d r ≠ true := fun h => by have := (mayTell_is.1 h).2.2; omega
      have hk0 : nextD d (keepL prev d r).1 = 0 := by
        unfold nextD
        rw [if_neg]
        unfold keepL
        rw [if_neg (fun h => hno h.1)]
        rcases keep1_kind r with h | h <;> rw [h.1] <;> omega
      rw [hk0] at ih ⊢
      have e : (rs.length + 1 + d) / 8 = rs.length / 8 + 1 := by omega
      rw [e, Nat.mul_add, Nat.mul_add]
      simp only [Nat.add_zero, Nat.mul_one] at ih ⊢
      omega
/-- SMALL CHANGES ARE SMALL. -/
theorem small_pack (M D : Nat) (r : List UInt8) (rs : List (List UInt8)) (hn : near D r rs) (hM : ∀ q ∈ r :: rs, q.length ≤ M) : szs (ptsOf [] 0 (r :: rs)) ≤ M * (((r :: rs).length + 7) / 8) + D * (r :: rs).length := by
  have hk := keepL_len [] 0 r
  have hk2 := hM r (List.mem_cons_self ..)
  have hd := keepL_depth (prev := []) (raw := r) (d := 0) (by omega)
  have hno : mayTell [] 0 r ≠ true := fun h => by have := (mayTell_is.1 h).1; simp at this
  have hk0 : nextD 0 (keepL [] 0 r).1 = 0 := by
    unfold nextD
    rw [if_neg]
    unfold keepL
    rw [if_neg (fun h => hno h.1)]
    rcases keep1_kind r with h | h <;> rw [h.1] <;> omega
  have ih := near_cost M D rs r 0 (by omega) hn fun q hq => hM q (List.mem_cons_of_mem _ hq)
  rw [ptsOf, szs_cons, hk0, List.length_cons]
  simp only
  have e : (rs.length + 1 + 7) / 8 = rs.length / 8 + 1 := by omega
  rw [e, Nat.mul_add, Nat.mul_add]
  simp only [Nat.add_zero, Nat.mul_one] at ih ⊢
  omega
/-- Depths are small; a part has one just if it is told. -/
theorem pts_depth : ∀ (rs : List (List UInt8)) (prev : List UInt8) (d : Nat), d ≤ 7 → ∀ p ∈ ptsOf prev d rs, p.depth ≤ 7 ∧ (0 < p.depth ↔ p.kind = 2)
  | [], _, _, _, p, hp => by simp [ptsOf] at hp
  | r :: rs, prev, d, hd, p, hp => by
    rw [ptsOf] at hp
    rcases List.mem_cons.1 hp with rfl | hp
    · refine ⟨keepL_depth hd, ?_⟩
      simp only
      unfold nextD
      split
      · rename_i h; simp [h]
      · rename_i h; simp [h]
    · exact pts_depth rs r _ (keepL_depth hd) p hp
theorem pts_length : ∀ (rs : List (List UInt8)) (prev : List UInt8) (d : Nat), (ptsOf prev d rs).length = rs.length
  | [], _, _ => rfl
  | r :: rs, prev, d => by rw [ptsOf, List.length_cons, List.length_cons, pts_length rs]
/-- A run in a blob's data is a run in its bytes. -/
theorem enc_blob {a run : List UInt8} {p q : Nat} (hpq : p ≤ q) (hq : q ≤ a.length) (hb : a.length + 1 + run.length ≤ 1048576) : (encL (1 :: a) (1 :: (a.take p ++ (run ++ a.drop q)))).length ≤ run.length + 40 := by
  have := enc_run (base := 1 :: a) (run := run) (p := p + 1) (q := q + 1) (by omega) (by simp; omega) (by simp; omega)
  simpa using this
end Go.Dol
