/- Nodes that lead to nodes ahead of them alone, in plain Lean: bases, and the order. No program is in sight. Conditions: none beyond what each lemma names. -/
import Derived.Test.YteeajmgiamdfdaaBasLaw
namespace Go.Dol
open Go.RowKit
set_option linter.unusedVariables false
/-- The id of a number. -/
def idB (i : Nat) : ByteArray := ⟨#[UInt8.ofNat (97 + i % 8), UInt8.ofNat (48 + i / 8)]⟩
theorem idB_fin : ∀ i : Fin 60, ∀ j : Fin 60, idB i = idB j → i = j := by decide +kernel
theorem idB_inj {i j : Nat} (hi : i < 60) (hj : j < 60) (h : idB i = idB j) : i = j := by
  have := idB_fin ⟨i, hi⟩ ⟨j, hj⟩ h
  injection this
/-- Nodes by numbers; each has parents ahead of it alone. -/
structure Fwd (l : List Nd) : Prop where
  len : l.length ≤ 60
  at_ : ∀ i nd, l[i]? = some nd → nd.1 = idB i ∧ nd.2.length ≤ 4 ∧ ∀ p ∈ nd.2, ∃ j, j < i ∧ p = idB j
theorem parF_get {l : List Nd} {x : ByteArray} {ps : List ByteArray} (h : parF l x = some ps) : ∃ (k : Nat) (nd : Nd), l[k]? = some nd ∧ nd.1 = x ∧ nd.2 = ps := by
  induction l with
  | nil => cases h
  | cons f r ih =>
    unfold parF at h
    split at h
    · rename_i he
      injection h with h
      exact ⟨0, f, rfl, he, h⟩
    · obtain ⟨k, nd, h1, h2⟩ := ih h
      exact ⟨k + 1, nd, by rw [List.getElem?_cons_succ]; exact h1, h2⟩
theorem parF_some {l : List Nd} {nd : Nd} (h : nd ∈ l) : (parF l nd.1).isSome = true := by
  induction l with
  | nil => cases h
  | cons f r ih =>
    unfold parF
    split
    · rfl
    · rename_i he
      rcases List.mem_cons.1 h with rfl | h
      · exact absurd rfl he
      · exact ih h
section
variable {l : List Nd} (F : Fwd l)
include F
theorem Fwd.known {x : ByteArray} (h : (parF l x).isSome = true) : ∃ i, i < l.length ∧ x = idB i := by
  obtain ⟨ps, hp⟩ := Option.isSome_iff_exists.1 h
  obtain ⟨k, nd, h1, h2, _⟩ := parF_get hp
  exact ⟨k, (List.getElem?_eq_some_iff.1 h1).1, by rw [← h2]; exact (F.at_ k nd h1).1⟩
theorem Fwd.par {i : Nat} {nd : Nd} (h : l[i]? = some nd) : parF l nd.1 = some nd.2 := by
  have hs := parF_some (List.mem_of_getElem? h)
  obtain ⟨ps, hp⟩ := Option.isSome_iff_exists.1 hs
  obtain ⟨k, nd', h1, h2, h3⟩ := parF_get hp
  have hk := (List.getElem?_eq_some_iff.1 h1).1
  have hi := (List.getElem?_eq_some_iff.1 h).1
  have hl := F.len
  have e : k = i := idB_inj (by omega) (by omega) (by rw [← (F.at_ k nd' h1).1, ← (F.at_ i nd h).1, h2])
  rw [e, h] at h1
  injection h1 with h1
  rw [hp, ← h3, h1]
theorem Fwd.parents {x : ByteArray} {ps : List ByteArray} (h : parF l x = some ps) : ∃ i, i < l.length ∧ x = idB i ∧ ∀ p ∈ ps, ∃ j, j < i ∧ p = idB j := by
  obtain ⟨k, nd, h1, h2, h3⟩ := parF_get h
  obtain ⟨a, _, c⟩ := F.at_ k nd h1
  exact ⟨k, (List.getElem?_eq_some_iff.1 h1).1, by rw [← h2, a], by rw [← h3]; exact c⟩
theorem Fwd.rch {i : Nat} {y : ByteArray} (hi : i < l.length) (h : Rch l [idB i] y) : ∃ j, j ≤ i ∧ y = idB j := by
  have hl := F.len
  induction h with
  | base h1 h2 => exact ⟨i, Nat.le_refl _, List.mem_singleton.1 h1⟩
  | step h1 h2 h3 h4 ih =>
    obtain ⟨j, hj, e⟩ := ih
    obtain ⟨k, hk, e2, h5⟩ := F.parents h2
    obtain ⟨m, hm, e3⟩ := h5 _ h3
    have : k = j := idB_inj (by omega) (by omega) (by rw [← e2, e])
    exact ⟨m, by omega, e3⟩
omit F in
theorem Rch.head {x y : ByteArray} (h : Rch l [x] y) : (parF l x).isSome = true := by
  induction h with
  | base h1 h2 => rw [List.mem_singleton.1 h1] at h2; exact h2
  | step _ _ _ _ ih => exact ih
theorem Fwd.anti {x y : ByteArray} (h1 : Rch l [x] y) (h2 : Rch l [y] x) : x = y := by
  obtain ⟨i, hi, rfl⟩ := F.known (Rch.head h1)
  obtain ⟨j, hj, rfl⟩ := F.known (Rch.head h2)
  obtain ⟨a, ha, e1⟩ := F.rch hi h1
  obtain ⟨b, hb, e2⟩ := F.rch hj h2
  have hl := F.len
  have e3 := idB_inj (by omega) (by omega) e1
  have e4 := idB_inj (by omega) (by omega) e2
  have : i = j := by omega
  rw [this]
/-- No base is reached from another one. -/
theorem Fwd.apart {a b x y : ByteArray} (hx : BaseP l a b x) (hy : BaseP l a b y) (hne : x ≠ y) : ¬ Rch l [x] y := fun h => by
  refine hy.2 ⟨x, hx.1, h, fun h2 => hne (F.anti h h2)⟩
/-- Whatever is reached from both is reached from a base. -/
theorem Fwd.some_base {a b : ByteArray} : ∀ n i, i < l.length → l.length ≤ i + n → Rch l [a] (idB i) → Rch l [b] (idB i) → ∃ y, BaseP l a b y ∧ Rch l [y] (idB i) := by
  intro n
  induction n with
  | zero => intro i hi hn; omega
  | succ n ih =>
    intro i hi hn ha hb
    have hl := F.len
    by_cases hB : BaseP l a b (idB i)
    · exact ⟨_, hB, Rch.self ha.known⟩
    · have : ∃ o, (Rch l [a] o ∧ Rch l [b] o) ∧ Rch l [o] (idB i) ∧ ¬ Rch l [idB i] o := by
        refine Classical.byContradiction fun hno => hB ⟨⟨ha, hb⟩, hno⟩
      obtain ⟨o, ⟨h1, h2⟩, h3, h4⟩ := this
      obtain ⟨j, hj, rfl⟩ := F.known h1.known
      obtain ⟨k, hk, e⟩ := F.rch hj h3
      have e2 := idB_inj (by omega) (by omega) e
      have hij : i ≠ j := fun e3 => h4 (by rw [e3]; exact Rch.self h1.known)
      obtain ⟨y, hy1, hy2⟩ := ih j hj (by omega) h1 h2
      exact ⟨y, hy1, hy2.trans h3⟩
/-- Of one and one that it reaches the base is that. -/
theorem Fwd.one {a b : ByteArray} (h : Rch l [a] b) {L : List ByteArray} (hs : Strict L) (hm : ∀ x, x ∈ L ↔ BaseP l a b x) : L = [b] := by
  have hb : Rch l [b] b := Rch.self h.known
  refine hs.same (List.pairwise_singleton ..) fun x => ?_
  rw [hm, List.mem_singleton]
  constructor
  · rintro ⟨⟨h1, h2⟩, h3⟩
    refine F.anti (Classical.byContradiction fun hn => h3 ⟨b, ⟨h, hb⟩, h2, hn⟩) h2
  · rintro rfl
    exact ⟨⟨h, hb⟩, fun ⟨o, ⟨_, h2⟩, h3, h4⟩ => h4 h2⟩
/-- The order has all that is reached. -/
theorem Fwd.all {fr all : List ByteArray} (hm : ∀ x, x ∈ all ↔ Rch l fr x) : ∀ x ∈ all, x ∈ orderO l all := by
  have hend := orderO_end l all
  unfold nextO at hend
  rw [List.find?_eq_none] at hend
  have hl := F.len
  have key : ∀ n i, i < n → i < l.length → idB i ∈ all → idB i ∈ orderO l all := by
    intro n
    induction n with
    | zero => intro i hi; omega
    | succ n ih =>
      intro i hi hil hx
      refine Decidable.byContradiction fun hno => ?_
      refine hend _ hx ?_
      have hr : readyO l all (orderO l all) (idB i) = true := by
        unfold readyO
        rw [List.all_eq_true]
        intro y hy
        have hk := ((hm _).1 hx).known
        obtain ⟨ps, hp⟩ := Option.isSome_iff_exists.1 hk
        unfold parL at hy
        rw [hp, Option.getD_some] at hy
        obtain ⟨i', hi', e, h5⟩ := F.parents hp
        have e2 := idB_inj (by omega) (by omega) e
        obtain ⟨j, hj, rfl⟩ := h5 y hy
        by_cases hya : idB j ∈ all
        · have := ih j (by omega) (by omega) hya
          simp [hya, this]
        · simp [hya]
      simp [hno, hr]
  intro x hx
  obtain ⟨i, hi, rfl⟩ := F.known ((hm x).1 hx).known
  exact key (i + 1) i (by omega) hi hx
theorem Fwd.length {fr all : List ByteArray} (hs : Strict all) (hm : ∀ x, x ∈ all ↔ Rch l fr x) : (orderO l all).length = all.length := by
  have h1 := (orderO_ok l all).len
  have h2 := nodup_len hs.nodup (F.all hm)
  omega
/-- Each is behind its parents. -/
theorem Fwd.behind {fr all : List ByteArray} (hm : ∀ x, x ∈ all ↔ Rch l fr x) : ∀ i x, (orderO l all)[i]? = some x → ∀ y ∈ parL l x, y ∈ (orderO l all).take i := by
  refine (goO_ind (l := l) (all := all) (p := fun out => ∀ i x, out[i]? = some x → ∀ y ∈ parL l x, y ∈ out.take i) ?_ all.length [] (OrdOk.nil all) (fun i x h => by simp at h)).2
  intro out x ho hp hn i z hz y hy
  obtain ⟨h1, h2, h3⟩ := nextO_some hn
  rcases Nat.lt_or_ge i out.length with hi | hi
  · rw [List.getElem?_append_left hi] at hz
    have := hp i z hz y hy
    rw [List.take_append_of_le_length (by omega)]
    exact this
  · have hi2 : i = out.length := by
      have := (List.getElem?_eq_some_iff.1 hz).1
      rw [List.length_append] at this
      simp at this
      omega
    rw [hi2] at hz ⊢
    rw [List.getElem?_append_right (Nat.le_refl _), Nat.sub_self] at hz
    have hzx : x = z := by simpa using hz
    rw [← hzx] at hy
    rw [List.take_append_of_le_length (Nat.le_refl _), List.take_length]
    unfold readyO at h3
    rw [List.all_eq_true] at h3
    have h4 := h3 y hy
    have hx := ((hm x).1 h1)
    obtain ⟨ps, hps⟩ := Option.isSome_iff_exists.1 hx.known
    have hy2 := hy
    unfold parL at hy2
    rw [hps, Option.getD_some] at hy2
    obtain ⟨k, hk, _, h5⟩ := F.parents hps
    obtain ⟨j, hj, rfl⟩ := h5 y hy2
    have hya : idB j ∈ all := by
      rw [hm]
      refine .step hx hps hy2 ?_
      have hjl : j < l.length := by omega
      have := parF_some (List.getElem_mem hjl)
      rwa [(F.at_ j l[j] (List.getElem?_eq_getElem hjl)).1] at this
    simpa [hya] using h4
end
theorem fwd_room {l : List Nd} (F : Fwd l) : room l [] [] ≤ 300 := by
  have key : ∀ (m : List Nd) (s : List ByteArray), (∀ nd ∈ m, nd.2.length ≤ 4) → room m s [] ≤ 5 * m.length := by
    intro m
    induction m with
    | nil => intro s _; exact Nat.le_refl _
    | cons f r ih =>
      intro s h
      have h1 := ih (f.1 :: s) fun nd hnd => h nd (List.mem_cons_of_mem _ hnd)
      have h2 := h f (List.mem_cons_self ..)
      unfold room
      rw [List.length_cons]
      split <;> omega
  have h1 := key l [] fun nd hnd => by
    obtain ⟨i, hi⟩ := List.getElem?_of_mem hnd
    exact (F.at_ i nd hi).2.1
  have := F.len
  omega
end Go.Dol
