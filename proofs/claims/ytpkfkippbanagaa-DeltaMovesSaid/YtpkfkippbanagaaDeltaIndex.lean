/- The index of a base's blocks: where each one stands first. In plain Lean, no program is in sight. Conditions: as each lemma names. -/
import Derived.Test.YtpkfkippbanagaaDeltaLaw
import Derived.Test.YtpkfkippbanagaaMapL
namespace Go.Dol
set_option linter.unusedVariables false

theorem blockF_is {base b : List UInt8} : ∀ (m f k : Nat), base.length ≤ k + f → k + 16 * m + 16 ≤ base.length → (base.drop (k + 16 * m)).take 16 = b.take 16 → (∀ m', m' < m → (base.drop (k + 16 * m')).take 16 ≠ b.take 16) → blockF base b f k = some (k + 16 * m) := by
  intro m
  induction m with
  | zero =>
    intro f k hf h1 h2 _
    cases f with
    | zero => omega
    | succ f => rw [blockF, if_pos (by omega), if_pos (by simpa using h2)]; rfl
  | succ m ih =>
    intro f k hf h1 h2 h3
    cases f with
    | zero => omega
    | succ f =>
      rw [blockF, if_pos (by omega), if_neg (by simpa using h3 0 (by omega)), ih f (k + 16) (by omega) (by omega) (by rw [← h2]; congr 2; omega) fun m' hm' => ?_]
      · congr 1; omega
      · have := h3 (m' + 1) (by omega)
        rw [show k + 16 * (m' + 1) = k + 16 + 16 * m' by omega] at this
        exact this
theorem blockF_none {base b : List UInt8} : ∀ (f k : Nat), (∀ m, k + 16 * m + 16 ≤ base.length → (base.drop (k + 16 * m)).take 16 ≠ b.take 16) → blockF base b f k = none := by
  intro f
  induction f with
  | zero => intro k _; rfl
  | succ f ih =>
    intro k h
    rw [blockF]
    split
    · rw [if_neg (by simpa using h 0 (by omega))]
      refine ih _ fun m hm => ?_
      have := h (m + 1) (by omega)
      rw [show k + 16 * (m + 1) = k + 16 + 16 * m by omega] at this
      exact this
    · rfl
/-- A block as a map's key. -/
def kvB (K : List UInt8) : Value := .agg (bc K).toArray
theorem kvB_inj {K L : List UInt8} (h : kvB K = kvB L) : K = L := by
  have h1 : bc K = bc L := by
    have h2 : (bc K).toArray = (bc L).toArray := by injection h
    simpa using h2
  refine (List.map_inj_right (fun a b hab => ?_)).1 h1
  injection hab with _ hab
  exact UInt8.toNat_inj.1 (by omega)
/-- The index of the blocks below one. -/
def Idx (base : List UInt8) (n : Nat) (al : List (Value × Value)) : Prop :=
  (∀ p ∈ al, ∃ m, m < n ∧ p = (kvB ((base.drop (16 * m)).take 16), .int .i64 ((16 * m : Nat) : Int)) ∧ ∀ m', m' < m → (base.drop (16 * m')).take 16 ≠ (base.drop (16 * m)).take 16) ∧
  (∀ m, m < n → ∃ v, (kvB ((base.drop (16 * m)).take 16), v) ∈ al)
theorem Idx.nil (base : List UInt8) : Idx base 0 [] := ⟨by simp, fun m h => by omega⟩
theorem Idx.met {base : List UInt8} {n : Nat} {al : List (Value × Value)} {v : Value} (h : Idx base n al) (hm : (kvB ((base.drop (16 * n)).take 16), v) ∈ al) : Idx base (n + 1) al := by
  refine ⟨fun p hp => ?_, fun m hmn => ?_⟩
  · obtain ⟨m, h1, h2⟩ := h.1 p hp
    exact ⟨m, by omega, h2⟩
  · rcases Nat.lt_or_ge m n with h1 | h1
    · exact h.2 m h1
    · obtain rfl : m = n := by omega
      exact ⟨v, hm⟩
theorem Idx.put {base : List UInt8} {n : Nat} {al al' : List (Value × Value)} (h : Idx base n al) (hn : ∀ p ∈ al, p.1 ≠ kvB ((base.drop (16 * n)).take 16)) (hp : MPut al (kvB ((base.drop (16 * n)).take 16)) (.int .i64 ((16 * n : Nat) : Int)) al') : Idx base (n + 1) al' := by
  rcases hp with ⟨_, rfl⟩ | ⟨l, r, u0, rfl, rfl⟩
  · refine ⟨fun p hp => ?_, fun m hmn => ?_⟩
    · rcases List.mem_append.1 hp with hp | hp
      · obtain ⟨m, h1, h2⟩ := h.1 p hp
        exact ⟨m, by omega, h2⟩
      · refine ⟨n, by omega, by simpa using hp, fun m' hm' e => ?_⟩
        obtain ⟨v, hv⟩ := h.2 m' hm'
        exact hn _ hv (by rw [e])
    · rcases Nat.lt_or_ge m n with h1 | h1
      · obtain ⟨v, hv⟩ := h.2 m h1
        exact ⟨v, List.mem_append.2 (.inl hv)⟩
      · obtain rfl : m = n := by omega
        exact ⟨.int .i64 ((16 * m : Nat) : Int), List.mem_append.2 (.inr (List.mem_singleton.2 rfl))⟩
  · exact absurd rfl (hn (kvB ((base.drop (16 * n)).take 16), u0) (by simp))
/-- What is looked up in a whole index is the document's answer. -/
theorem Idx.hit {base b : List UInt8} {n : Nat} {al : List (Value × Value)} {v : Value} (h : Idx base n al) (hn : 16 * n ≤ base.length) (hb : 16 ≤ b.length) (hv : (kvB (b.take 16), v) ∈ al) : ∃ k : Nat, v = .int .i64 (k : Nat) ∧ blockAt base b = some k := by
  obtain ⟨m, h1, h2, h3⟩ := h.1 _ hv
  injection h2 with h2 h4
  have e := kvB_inj h2
  refine ⟨16 * m, h4, ?_⟩
  unfold blockAt
  rw [if_pos hb]
  have := blockF_is (base := base) (b := b) m base.length 0 (by omega) (by omega) (by rw [Nat.zero_add, e]) fun m' hm' => by rw [Nat.zero_add, e]; exact h3 m' hm'
  rw [this, Nat.zero_add]
theorem Idx.miss {base b : List UInt8} {n : Nat} {al : List (Value × Value)} (h : Idx base n al) (hn : base.length < 16 * n + 16) (hv : ∀ p ∈ al, p.1 ≠ kvB (b.take 16)) : blockAt base b = none := by
  unfold blockAt
  split
  · refine blockF_none _ _ fun m hm e => ?_
    rw [Nat.zero_add] at hm e
    obtain ⟨v, hv'⟩ := h.2 m (by omega)
    exact hv _ hv' (by rw [← e])
  · rfl
end Go.Dol
