/- What a save leaves of all other files, in plain Lean. No program is in sight. Conditions: a calm disk. -/
import Derived.Test.YtogjlfpoedeooaaLoadLaw
import Derived.Test.YtogjlfpoedeooaaShadow
import Derived.Test.YtogjlfpoedeooaaSafe5
namespace Go.Dol
open Go.RowKit
set_option linter.unusedVariables false
/-- A save on a calm disk, under a name that may be saved: refused for want of room, or done; no other file but the shadow turns. -/
theorem save_any {D : Dk} (h : CalmD D) {n : ByteArray} {b : List UInt8} (hs : nameB (shd n) = true) (h0 : n.size ≠ 0) (hE : endsT n = false) :
    ∃ k D', saveD D n b = (k, D') ∧ CalmD D' ∧ (∀ x, x ≠ n → x ≠ shd n → lookF D'.l x = lookF D.l x) ∧ (k = 4 ∨ k = 0 ∧ lookF D'.l n = some b) := by
  have hbad : ¬ (nameB (shd n) = false ∨ n.size = 0 ∨ endsT n = true) := by
    rintro (h | h | h)
    · rw [hs] at h; cases h
    · exact h0 h
    · rw [hE] at h; cases h
  have tail : ∀ D1 : Dk, CalmD D1 → lookF D1.l (shd n) = none → ∃ k D', tailD D1 n b = (k, D') ∧ CalmD D' ∧ (∀ x, x ≠ n → x ≠ shd n → lookF D'.l x = lookF D1.l x) ∧ (k = 4 ∨ k = 0 ∧ lookF D'.l n = some b) := by
    intro D1 h1 hl
    unfold tailD
    by_cases hr : frD D1 < 16 + ((n.size : Int) + 1) + b.length
    · rw [if_pos hr]
      exact ⟨4, D1, rfl, h1, fun _ _ _ => rfl, .inl rfl⟩
    · rw [if_neg hr]
      obtain ⟨D', e, L, k1, _, o⟩ := laid_ok h1 (n := n) (b := b) hs h0 hl (by omega)
      exact ⟨0, D', e, L.calm, o, .inr ⟨rfl, k1⟩⟩
  unfold saveD
  rw [if_neg hbad, if_neg (by rw [h.dark]; decide)]
  cases hl : lookF D.l (shd n) with
  | none =>
    rw [if_neg (by decide)]
    exact tail D h hl
  | some c =>
    obtain ⟨e, L⟩ := rem_ok h hl hs
    rw [if_pos (by rfl), e, if_neg (by simp)]
    obtain ⟨k, D', e2, c2, o2, r2⟩ := tail _ L.calm (by show lookF (dropF D.l (shd n)) (shd n) = none; rw [look_drop h.ok.ord, if_pos rfl])
    refine ⟨k, D', e2, c2, fun x h1 h2 => ?_, r2⟩
    rw [o2 x h1 h2]
    show lookF (dropF D.l (shd n)) x = _
    rw [look_drop h.ok.ord, if_neg h2]
theorem order_nodup {l : List Fil} (h : InOrder l) : l.Nodup := List.Pairwise.imp (fun {a b} hab e => by rw [e] at hab; exact absurd rfl (sLt_ne hab)) h
/-- Two rows of files in order that answer alike for all names that are kept are alike, where they are kept. -/
theorem filter_same {l m : List Fil} (hl : InOrder l) (hm : InOrder m) (p : ByteArray → Bool) (h : ∀ x, p x = true → lookF l x = lookF m x) : l.filter (fun f => p f.1) = m.filter fun f => p f.1 := by
  refine order_unique (List.Pairwise.filter _ hl) (List.Pairwise.filter _ hm) ?_
  refine (List.perm_ext_iff_of_nodup ((order_nodup hl).filter _) ((order_nodup hm).filter _)).2 fun f => ?_
  rw [List.mem_filter, List.mem_filter]
  refine ⟨fun ⟨h1, h2⟩ => ⟨?_, h2⟩, fun ⟨h1, h2⟩ => ⟨?_, h2⟩⟩
  · have e := (look_some hl (n := f.1) (b := f.2)).2 h1
    rw [h f.1 h2] at e
    exact (look_some hm).1 e
  · have e := (look_some hm (n := f.1) (b := f.2)).2 h1
    rw [← h f.1 h2] at e
    exact (look_some hl).1 e
end Go.Dol
namespace Go.Proofs.Ytogjlfpoedeooaa
open Go.RowKit Go.Dol
set_option linter.unusedVariables false
theorem keep_ne {n x : ByteArray} (h : keepN n x = true) : x ≠ n ∧ x ≠ shd n := by
  unfold keepN at h
  simp only [Bool.and_eq_true, Bool.not_eq_true'] at h
  refine ⟨?_, ?_⟩
  · rintro rfl
    rw [beq_self_eq_true] at h
    cases h.1
  · rintro rfl
    rw [beq_self_eq_true] at h
    cases h.2
theorem filter_files (fs : List FilA) (p : ByteArray → Bool) : (fs.filter fun x => p x.n).map FilA.f = (fs.map FilA.f).filter fun f => p f.1 := by
  induction fs with
  | nil => rfl
  | cons x r ih =>
    rw [List.map_cons, List.filter_cons, List.filter_cons]
    show _ = if p x.n = true then _ else _
    cases h : p x.n with
    | true => simp [ih]
    | false => simp [ih]
section
variable {w w' : World} {g m : Nat} {D : Dk}
/-- What is owned and is no disk lies still where a disk turns. -/
theorem own_tw {base : Nat} {T : TypeId} {size : Nat} {v : Value} {n : Nat} {xs : List Value} (hD : Dsk w g m D) (ht : Tw w w' g m) (ho : w.ownsRow base T size v n xs) (hT : T ≠ 72) : w'.ownsRow base T size v n xs := by
  refine ⟨ho.1, ?_⟩
  rcases ho.2 with hn | ⟨k, cap, cur, rfl, hb, hk, rest⟩
  · exact .inl hn
  · have hlt : k < w.heap.size := (Array.getElem?_eq_some_iff.1 hk).1
    obtain ⟨al, hB, hM, _⟩ := hD
    have h1 : k ≠ g := by
      rintro rfl
      unfold Blk at hB
      rw [hB] at hk
      injection hk with hk
      injection hk with _ hk
      exact hT hk.symm
    have h2 : k ≠ m := by
      rintro rfl
      obtain ⟨es, clock, hb2, _⟩ := hM
      rw [hb2] at hk
      cases hk
    exact .inr ⟨k, cap, cur, rfl, hb, (ht.block k hlt h1 h2).trans hk, rest⟩
theorem Dsk.offRows (hD : Dsk w g m D) : Other w 0 (some g) ∧ Other w 0 (some m) := by
  obtain ⟨al, hB, hM, _⟩ := hD
  exact ⟨Other.blk hB (by decide) (Nat.zero_le _), Other.map hM⟩
theorem Fls8.tw {l : List FilA} (hD : Dsk w g m D) (ht : Tw w w' g m) (h : Fls8 w 0 l) : Fls8 w' 0 l := fun x hx => ⟨(h x hx).1.tw ht hD.offRows.1 hD.offRows.2, (h x hx).2⟩
theorem Fls8.filter {B : Nat} {l : List FilA} (h : Fls8 w B l) (p : FilA → Bool) : Fls8 w B (l.filter p) := fun x hx => h x (List.mem_filter.1 hx).1
end
end Go.Proofs.Ytogjlfpoedeooaa
