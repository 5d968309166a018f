/- What the laws PackIds, PackBack and PackKeeps say, in plain Lean: ids rise, each is found; the rows handed in are objects. Conditions: none. -/
import Derived.Test.YtnaakfnbmeimaaaGreatPckIds
import Derived.Test.YtnaakfnbmeimaaaGreatRaws
import Derived.Test.YtnaakfnbmeimaaaGreatPackLaw
import Derived.Test.YtnaakfnbmeimaaaGreatPack1
namespace Go.Proofs.YtnaakfnbmeimaaaGreat
open Go.RowKit Go.Dol
set_option linter.unusedVariables false
theorem less_eq (x y : List UInt8) : Op.bytesLess x y = decide (x < y) := by
  induction x generalizing y with
  | nil =>
    cases y with
    | nil => rfl
    | cons b y => simp [Op.bytesLess]
  | cons a x ih =>
    cases y with
    | nil => simp [Op.bytesLess]
    | cons b y =>
      simp only [Op.bytesLess, ih, List.cons_lt_cons_iff]
      by_cases h1 : a < b <;> by_cases h2 : a = b <;> simp [h1, h2]
/-- What the law hands in are objects. -/
theorem raws_objs (os : List Go.Dol.Obj) : ∀ r ∈ rawsL geS os [], isObjL geS r = true := by
  intro r hr
  unfold rawsL at hr
  rw [List.take_nil, List.append_nil] at hr
  obtain ⟨o, _, ho⟩ := List.mem_flatMap.1 hr
  unfold encIf at ho
  split at ho
  · rename_i hc
    obtain rfl := List.mem_singleton.1 ho
    unfold isObjL
    rw [dec_enc hc]
    rfl
  · cases ho
theorem raws_few {os : List Go.Dol.Obj} {ys : List RowB} (h : ys.map (·.l) = rawsL geS os []) : ∀ x ∈ ys, x.l.length ≤ 2097152 := fun x hx =>
  obj_few _ (raws_objs os _ (by rw [← h]; exact List.mem_map.2 ⟨x, hx, rfl⟩))
/-- Ids rise. -/
theorem ids_rise {l : List Pt} (hn : (l.map (·.id)).Nodup) {j : Nat} {a b : ByteArray} (ha : (idsL l)[j]? = some a) (hb : (idsL l)[j + 1]? = some b) : Op.bytesLess a.toList b.toList = true := by
  have tr : ∀ a b c : List UInt8, decide (a ≤ b) = true → decide (b ≤ c) = true → decide (a ≤ c) = true := fun a b c h1 h2 => decide_eq_true (List.le_trans (of_decide_eq_true h1) (of_decide_eq_true h2))
  have tl : ∀ a b : List UInt8, (decide (a ≤ b) || decide (b ≤ a)) = true := fun a b => by
    rcases List.le_total a b with h | h <;> simp [h]
  have hp := List.pairwise_mergeSort tr tl (l.map (·.id))
  have hd : (sortL (l.map (·.id))).Nodup := by unfold sortL; exact (List.mergeSort_perm _ _).nodup_iff.2 hn
  unfold idsL at ha hb
  rw [List.getElem?_map, Option.map_eq_some_iff] at ha hb
  obtain ⟨x, hx, rfl⟩ := ha
  obtain ⟨y, hy, rfl⟩ := hb
  obtain ⟨h1, e1⟩ := List.getElem?_eq_some_iff.1 hx
  obtain ⟨h2, e2⟩ := List.getElem?_eq_some_iff.1 hy
  have h3 := List.pairwise_iff_getElem.1 hp j (j + 1) h1 h2 (by omega)
  have h4 := List.pairwise_iff_getElem.1 hd j (j + 1) h1 h2 (by omega)
  have e1' : (List.mergeSort (l.map (·.id)) fun a b => decide (a ≤ b))[j] = x := e1
  have e2' : (List.mergeSort (l.map (·.id)) fun a b => decide (a ≤ b))[j + 1] = y := e2
  rw [e1', e2'] at h3
  rw [e1, e2] at h4
  rw [ByteArray.toList_eq, ByteArray.toList_eq, less_eq, idS_toList, idS_toList]
  refine decide_eq_true (Decidable.byContradiction fun h5 => h4 (List.le_antisymm (of_decide_eq_true h3) (List.not_lt.1 h5)))
/-- Each id is found. -/
theorem ids_found {l : List Pt} {s : ByteArray} (h : s ∈ idsL l) : ∃ p ∈ l, s = idS p.id := by
  obtain ⟨x, hx, rfl⟩ := List.mem_map.1 h
  have h2 := (List.mergeSort_perm (l.map (·.id)) _).mem_iff.1 hx
  obtain ⟨p, hp, rfl⟩ := List.mem_map.1 h2
  exact ⟨p, hp, rfl⟩
theorem look_mem {l : List Pt} {p : Pt} (h : p ∈ l) : (lookP l p.id).isSome = true := by
  unfold lookP
  rw [List.find?_isSome]
  exact ⟨p, h, by simp⟩
theorem look_own {l : List Pt} (hn : (l.map (·.id)).Nodup) {p : Pt} (h : p ∈ l) : lookP l p.id = some p := by
  unfold lookP
  induction l with
  | nil => cases h
  | cons q l ih =>
    rw [List.map_cons, List.nodup_cons] at hn
    rw [List.find?_cons]
    rcases List.mem_cons.1 h with rfl | h
    · simp
    · have hne : q.id ≠ p.id := fun e => hn.1 (by rw [e]; exact List.mem_map.2 ⟨p, h, rfl⟩)
      simp only [hne, decide_false]
      exact ih hn.2 h
theorem build_ok {ge : ByteArray → ByteArray → Bool} {rs : List (List UInt8)} {b : List UInt8} (h : buildL ge rs = some b) : packOk ge rs := by
  unfold buildL at h
  split at h
  · assumption
  · cases h
theorem parts_len (M : Nat) (hM : M ≤ 2097152) : ∀ (rs : List (List UInt8)) (prev : List UInt8) (d : Nat), (∀ r ∈ rs, r.length ≤ M) → (partsL prev d rs).length ≤ rs.length * (M + 64)
  | [], _, _, _ => Nat.zero_le _
  | r :: rs, prev, d, h => by
    have h1 := parts_len M hM rs r (nextD d (keepL prev d r).1) fun q hq => h q (List.mem_cons_of_mem _ hq)
    have h2 := h r (List.mem_cons_self ..)
    have h3 := keepL_len prev d r
    have h4 := num_length_le 8 (keepL prev d r).2.length (by omega)
    have h5 := sumOf_length r
    rw [partsL, List.length_append, partL, List.length_append, h5, List.length_cons, text, List.length_append, List.length_cons, Nat.add_mul]
    omega
theorem build_len {ge : ByteArray → ByteArray → Bool} {rs : List (List UInt8)} {b : List UInt8} (h : buildL ge rs = some b) (hr : ∀ r ∈ rs, r.length ≤ 2097152) (hl : rs.length ≤ 44) : b.length ≤ 100000000 := by
  unfold buildL at h
  split at h
  · injection h with h
    have h1 := parts_len 2097152 (Nat.le_refl _) rs [] 0 hr
    have h4 := num_length_le 8 rs.length (by omega)
    have h2 : rs.length * (2097152 + 64) ≤ 44 * (2097152 + 64) := Nat.mul_le_mul_right _ hl
    rw [← h, List.length_append, sumOf_length, bodyL, List.length_append, magicL_length, List.length_append]
    omega
  · cases h
theorem _root_.Go.Dol.Obs.more {w : World} {B B' : Nat} {l : List ObA} (h : Obs w B l) (hB : B ≤ B') : Obs w B' l := fun x hx => by
  obtain ⟨h1, h2, h3, h4⟩ := h x hx
  exact ⟨h1.more hB, h2.more hB, h3.more hB, h4⟩
end Go.Proofs.YtnaakfnbmeimaaaGreat
