/- Which object any bytes are; that what is encoded is read again as it was. In plain Lean, no program is in sight. Conditions: as each lemma names. -/
import Derived.Test.YtcefbhmmijmefaaObjSpec
namespace Go.Dol
set_option linter.unusedVariables false

def takeB (n : Nat) (r : List UInt8) : Option (List UInt8 × List UInt8) := if r.length < n then none else some (r.take n, r.drop n)
def takeT (r : List UInt8) : Option (List UInt8 × List UInt8) := takeText r 1048576
def takeEnt (r : List UInt8) : Option (Ent × List UInt8) :=
  match takeT r with
  | none => none
  | some (nm, r1) => match takeB 1 r1 with
    | none => none
    | some (d, r2) => match takeB 32 r2 with
      | none => none
      | some (i, r3) => some (⟨⟨nm.toArray⟩, decide (d = [1]), ⟨i.toArray⟩⟩, r3)
def takeEnts : Nat → List UInt8 → Option (List Ent × List UInt8)
  | 0, r => some ([], r)
  | n + 1, r => match takeEnt r with
    | none => none
    | some (e, r1) => match takeEnts n r1 with
      | none => none
      | some (l, r2) => some (e :: l, r2)
def takePars : Nat → List UInt8 → Option (List ByteArray × List UInt8)
  | 0, r => some ([], r)
  | n + 1, r => match takeB 32 r with
    | none => none
    | some (p, r1) => match takePars n r1 with
      | none => none
      | some (l, r2) => some (⟨p.toArray⟩ :: l, r2)
def takeTold (r : List UInt8) : Option (ByteArray × Int × ByteArray) :=
  match takeT r with
  | none => none
  | some (who, r1) => match takeNum r1 with
    | none => none
    | some (n, r2) => match takeT r2 with
      | none => none
      | some (t, r3) => some (⟨who.toArray⟩, (n : Int), ⟨t.toArray⟩)
def parseTree (r : List UInt8) : Option Obj :=
  match takeNum r with
  | none => none
  | some (n, r1) => match takeEnts n r1 with
    | none => none
    | some (l, _) => some { Obj.zero with kind := 2, ents := l }
def parseCommit (r : List UInt8) : Option Obj :=
  match takeB 32 r with
  | none => none
  | some (t, r1) => match takeNum r1 with
    | none => none
    | some (n, r2) => match takePars n r2 with
      | none => none
      | some (l, r3) => match takeTold r3 with
        | none => none
        | some (who, st, tx) => some { Obj.zero with kind := 3, tree := ⟨t.toArray⟩, pars := l, who := who, stamp := st, text := tx }
def parseTag (r : List UInt8) : Option Obj :=
  match takeB 32 r with
  | none => none
  | some (t, r1) => match takeT r1 with
    | none => none
    | some (nm, r2) => match takeTold r2 with
      | none => none
      | some (who, st, tx) => some { Obj.zero with kind := 4, target := ⟨t.toArray⟩, name := ⟨nm.toArray⟩, who := who, stamp := st, text := tx }
/-- What bytes would be. -/
def parseK (k : UInt8) (r : List UInt8) : Option Obj := if k = 1 then some { Obj.zero with kind := 1, data := r } else if k = 2 then parseTree r else if k = 3 then parseCommit r else if k = 4 then parseTag r else none
def parseO (b : List UInt8) : Option Obj :=
  match b with
  | [] => none
  | k :: r => parseK k r
theorem parseK1 (r : List UInt8) : parseK 1 r = some { Obj.zero with kind := 1, data := r } := rfl
theorem parseK2 (r : List UInt8) : parseK 2 r = parseTree r := rfl
theorem parseK3 (r : List UInt8) : parseK 3 r = parseCommit r := rfl
theorem parseK4 (r : List UInt8) : parseK 4 r = parseTag r := rfl
/-- Which object bytes are. -/
def decO (ge : ByteArray → ByteArray → Bool) (b : List UInt8) : Option Obj :=
  match parseO b with
  | none => none
  | some o => if checkB ge o = true ∧ encO o = b then some o else none

theorem mk_toArray (s : ByteArray) : (⟨s.data.toList.toArray⟩ : ByteArray) = s := by cases s; simp
theorem size_zero {s : ByteArray} (h : s.size = 0) : s = ⟨#[]⟩ := by
  have h1 : s.data.toList = [] := List.eq_nil_of_length_eq_zero (by rw [str_len]; exact h)
  rw [← mk_toArray s, h1]
theorem takeB_app {n : Nat} {a r : List UInt8} (h : a.length = n) : takeB n (a ++ r) = some (a, r) := by
  unfold takeB
  rw [if_neg (by rw [List.length_append]; omega), List.take_left' h, List.drop_left' h]
theorem takeT_app {s : ByteArray} {r : List UInt8} (h : s.size ≤ 1048576) : takeT (tx s ++ r) = some (s.data.toList, r) := by
  unfold takeT tx
  exact takeText_text _ _ _ (by rw [str_len]; omega) (by rw [str_len]; unfold mostNum; omega)
theorem part_size {s : ByteArray} (h : partB s = true) : 1 ≤ s.size ∧ s.size ≤ 100 := by
  unfold partB at h
  simp only [Bool.and_eq_true, decide_eq_true_eq] at h
  exact ⟨h.1.1.2, h.1.2⟩
theorem takeEnt_app {e : Ent} {r : List UInt8} (h1 : e.name.size ≤ 1048576) (h2 : e.id.size = 32) : takeEnt (entB e ++ r) = some (e, r) := by
  unfold takeEnt entB
  rw [List.append_assoc, takeT_app h1]
  simp only
  have e1 : ((if e.dir then 1 else 0) :: e.id.data.toList) ++ r = [if e.dir then 1 else 0] ++ (e.id.data.toList ++ r) := rfl
  rw [e1, takeB_app (by rfl)]
  simp only
  rw [takeB_app (by rw [str_len]; exact h2)]
  simp only
  rw [mk_toArray, mk_toArray]
  congr 2
  cases e with
  | mk nm d i => cases d <;> rfl
theorem takeEnts_app : ∀ (l : List Ent) (r : List UInt8), (∀ e ∈ l, e.name.size ≤ 1048576 ∧ e.id.size = 32) → takeEnts l.length (l.flatMap entB ++ r) = some (l, r)
  | [], r, _ => rfl
  | e :: l, r, h => by
    rw [List.length_cons, takeEnts, List.flatMap_cons, List.append_assoc, takeEnt_app (h e (by simp)).1 (h e (by simp)).2]
    simp only
    rw [takeEnts_app l r fun x hx => h x (by simp [hx])]
theorem takePars_app : ∀ (l : List ByteArray) (r : List UInt8), (∀ p ∈ l, p.size = 32) → takePars l.length (l.flatMap (fun p => p.data.toList) ++ r) = some (l, r)
  | [], r, _ => rfl
  | p :: l, r, h => by
    rw [List.length_cons, takePars, List.flatMap_cons, List.append_assoc, takeB_app (by rw [str_len]; exact h p (by simp))]
    simp only
    rw [takePars_app l r fun x hx => h x (by simp [hx]), mk_toArray]
theorem told_parts {who text : ByteArray} {stamp : Int} (h : toldB who stamp text = true) : who.size ≤ 1000 ∧ text.size ≤ 1000 ∧ 0 ≤ stamp ∧ stamp ≤ 1099511627776 := by
  unfold toldB at h
  simp only [Bool.and_eq_true, decide_eq_true_eq] at h
  exact ⟨h.1.1.1, h.1.1.2, h.1.2, h.2⟩
theorem takeTold_app {o : Obj} (h : toldB o.who o.stamp o.text = true) : takeTold (toldL o) = some (o.who, o.stamp, o.text) := by
  obtain ⟨h1, h2, h3, h4⟩ := told_parts h
  unfold takeTold toldL
  rw [takeT_app (by omega)]
  simp only
  rw [takeNum_num _ _ (clampN_le _)]
  simp only
  have e1 := takeT_app (s := o.text) (r := []) (by omega)
  rw [List.append_nil] at e1
  rw [e1]
  simp only
  rw [mk_toArray, mk_toArray]
  congr 2
  rw [show ((clampN o.stamp : Nat) : Int) = o.stamp by unfold clampN; omega]
theorem entsB_parts {ge : ByteArray → ByteArray → Bool} {l : List Ent} (h : entsB ge l = true) : entsUp ge l l.length ∧ l.length ≤ 4096 := by
  unfold entsB at h
  simp only [Bool.and_eq_true, decide_eq_true_eq, List.all_eq_true, List.mem_range] at h
  exact ⟨fun i hi => h.1 i hi, h.2⟩
theorem entsB_of {ge : ByteArray → ByteArray → Bool} {l : List Ent} (h : entsUp ge l l.length) : entsB ge l = decide (l.length ≤ 4096) := by
  unfold entsB
  rw [show (List.range l.length).all (entAt ge l) = true from List.all_eq_true.2 fun i hi => h i (List.mem_range.1 hi), Bool.true_and]
theorem entsB_not {ge : ByteArray → ByteArray → Bool} {l : List Ent} {i : Nat} (hi : i < l.length) (h : entAt ge l i = false) : entsB ge l = false := by
  unfold entsB
  have h3 : (List.range l.length).all (entAt ge l) = false := by
    rw [Bool.eq_false_iff]
    intro h2
    have := List.all_eq_true.1 h2 i (List.mem_range.2 hi)
    rw [h] at this
    cases this
  rw [h3, Bool.false_and]
theorem ent_mem {ge : ByteArray → ByteArray → Bool} {l : List Ent} (h : entsUp ge l l.length) : ∀ e ∈ l, e.name.size ≤ 1048576 ∧ e.id.size = 32 := by
  intro e he
  obtain ⟨i, hi, rfl⟩ := List.getElem_of_mem he
  have := h i hi
  unfold entAt at this
  rw [List.getElem?_eq_getElem hi] at this
  simp only [Bool.and_eq_true, decide_eq_true_eq] at this
  have h1 := part_size this.1.1
  exact ⟨by omega, this.1.2⟩
theorem parsB_parts {l : List ByteArray} (h : parsB l = true) : parsUp l l.length ∧ l.length ≤ 4 := by
  unfold parsB at h
  simp only [Bool.and_eq_true, decide_eq_true_eq, List.all_eq_true, List.mem_range] at h
  exact ⟨fun i hi => h.1 i hi, h.2⟩
theorem parsB_of {l : List ByteArray} (h : parsUp l l.length) : parsB l = decide (l.length ≤ 4) := by
  unfold parsB
  rw [show (List.range l.length).all (parAt l) = true from List.all_eq_true.2 fun i hi => h i (List.mem_range.1 hi), Bool.true_and]
theorem parsB_not {l : List ByteArray} {i : Nat} (hi : i < l.length) (h : parAt l i = false) : parsB l = false := by
  unfold parsB
  have h3 : (List.range l.length).all (parAt l) = false := by
    rw [Bool.eq_false_iff]
    intro h2
    have := List.all_eq_true.1 h2 i (List.mem_range.2 hi)
    rw [h] at this
    cases this
  rw [h3, Bool.false_and]
theorem par_mem {l : List ByteArray} (h : parsUp l l.length) : ∀ p ∈ l, p.size = 32 := by
  intro p hp
  obtain ⟨i, hi, rfl⟩ := List.getElem_of_mem hp
  have := h i hi
  unfold parAt at this
  rw [List.getElem?_eq_getElem hi] at this
  simp only [Bool.and_eq_true, decide_eq_true_eq] at this
  exact this.1
theorem noTold_is {o : Obj} (h : noTold o = true) : o.who = ⟨#[]⟩ ∧ o.text = ⟨#[]⟩ ∧ o.stamp = 0 := by
  unfold noTold at h
  simp only [Bool.and_eq_true, decide_eq_true_eq] at h
  exact ⟨size_zero h.1.1, size_zero h.1.2, h.2⟩
theorem noCommit_is {o : Obj} (h : noCommit o = true) : o.tree = ⟨#[]⟩ ∧ o.pars = [] := by
  unfold noCommit at h
  simp only [Bool.and_eq_true, decide_eq_true_eq] at h
  exact ⟨size_zero h.1, List.eq_nil_of_length_eq_zero h.2⟩
theorem noTag_is {o : Obj} (h : noTag o = true) : o.target = ⟨#[]⟩ ∧ o.name = ⟨#[]⟩ := by
  unfold noTag at h
  simp only [Bool.and_eq_true, decide_eq_true_eq] at h
  exact ⟨size_zero h.1, size_zero h.2⟩
theorem noData_is {o : Obj} (h : noData o = true) : o.data = [] := List.eq_nil_of_length_eq_zero (of_decide_eq_true h)
theorem noEnts_is {o : Obj} (h : noEnts o = true) : o.ents = [] := List.eq_nil_of_length_eq_zero (of_decide_eq_true h)
/-- What is encoded is read again as it was. -/
theorem parse_enc {ge : ByteArray → ByteArray → Bool} {o : Obj} (h : checkB ge o = true) : parseO (encO o) = some o := by
  unfold checkB at h
  unfold encO
  by_cases k1 : o.kind = 1
  · rw [if_pos k1] at h
    simp only [Bool.and_eq_true] at h
    obtain ⟨e1, e2, e3⟩ := noTold_is h.2.2
    obtain ⟨e4, e5⟩ := noTag_is h.2.1.2
    obtain ⟨e6, e7⟩ := noCommit_is h.2.1.1.2
    have e8 := noEnts_is h.2.1.1.1
    obtain ⟨k, d, en, tr, pa, ta, na, wh, st, te⟩ := o
    simp only at k1 e1 e2 e3 e4 e5 e6 e7 e8
    subst k1 e1 e2 e3 e4 e5 e6 e7 e8
    rfl
  rw [if_neg k1] at h
  by_cases k2 : o.kind = 2
  · rw [if_pos k2] at h
    simp only [Bool.and_eq_true] at h
    obtain ⟨e1, e2, e3⟩ := noTold_is h.2.2
    obtain ⟨e4, e5⟩ := noTag_is h.2.1.2
    obtain ⟨e6, e7⟩ := noCommit_is h.2.1.1.2
    have e8 := noData_is h.2.1.1.1
    obtain ⟨hu, hl⟩ := entsB_parts h.1
    have hm := takeEnts_app o.ents [] (ent_mem hu)
    rw [List.append_nil] at hm
    rw [if_neg k1, if_pos k2, k2]
    show parseK 2 (entsL o.ents) = _
    rw [parseK2]
    unfold entsL
    unfold parseTree
    rw [takeNum_num _ _ (by unfold mostNum; omega)]
    simp only
    rw [hm]
    obtain ⟨k, d, en, tr, pa, ta, na, wh, st, te⟩ := o
    simp only at k2 e1 e2 e3 e4 e5 e6 e7 e8
    subst k2 e1 e2 e3 e4 e5 e6 e7 e8
    rfl
  rw [if_neg k2] at h
  by_cases k3 : o.kind = 3
  · rw [if_pos k3] at h
    simp only [Bool.and_eq_true, decide_eq_true_eq] at h
    obtain ⟨e4, e5⟩ := noTag_is h.2.2
    have e6 := noEnts_is h.2.1.2
    have e7 := noData_is h.2.1.1
    obtain ⟨hu, hl⟩ := parsB_parts h.1.1.2
    rw [if_neg k1, if_neg k2, if_pos k3, k3]
    show parseK 3 (o.tree.data.toList ++ (parsL o.pars ++ toldL o)) = _
    rw [parseK3]
    unfold parseCommit
    rw [takeB_app (by rw [str_len]; exact h.1.1.1)]
    simp only
    unfold parsL
    rw [List.append_assoc, takeNum_num _ _ (by unfold mostNum; omega)]
    simp only
    rw [takePars_app _ _ (par_mem hu)]
    simp only
    rw [takeTold_app h.1.2, mk_toArray]
    obtain ⟨k, d, en, tr, pa, ta, na, wh, st, te⟩ := o
    simp only at k3 e4 e5 e6 e7
    subst k3 e4 e5 e6 e7
    rfl
  rw [if_neg k3] at h
  by_cases k4 : o.kind = 4
  · rw [if_pos k4] at h
    simp only [Bool.and_eq_true, decide_eq_true_eq] at h
    obtain ⟨e4, e5⟩ := noCommit_is h.2.2
    have e6 := noEnts_is h.2.1.2
    have e7 := noData_is h.2.1.1
    rw [if_neg k1, if_neg k2, if_neg k3, k4]
    show parseK 4 (o.target.data.toList ++ (tx o.name ++ toldL o)) = _
    rw [parseK4]
    unfold parseTag
    rw [takeB_app (by rw [str_len]; exact h.1.1.1.1)]
    simp only
    rw [takeT_app (by have := h.1.1.2; omega)]
    simp only
    rw [takeTold_app h.1.2, mk_toArray, mk_toArray]
    obtain ⟨k, d, en, tr, pa, ta, na, wh, st, te⟩ := o
    simp only at k4 e4 e5 e6 e7
    subst k4 e4 e5 e6 e7
    rfl
  · rw [if_neg k4] at h
    cases h
theorem dec_enc {ge : ByteArray → ByteArray → Bool} {o : Obj} (h : checkB ge o = true) : decO ge (encO o) = some o := by
  unfold decO
  rw [parse_enc h]
  exact if_pos ⟨h, rfl⟩
theorem dec_is {ge : ByteArray → ByteArray → Bool} {b : List UInt8} {o : Obj} (h : decO ge b = some o) : checkB ge o = true ∧ encO o = b := by
  unfold decO at h
  split at h
  · cases h
  · split at h
    · rename_i hc
      injection h with h
      subst h
      exact hc
    · cases h
theorem enc_inj {ge : ByteArray → ByteArray → Bool} {o p : Obj} (h1 : checkB ge o = true) (h2 : checkB ge p = true) (h : encO o = encO p) : o = p := by
  have e1 := dec_enc h1
  rw [h, dec_enc h2] at e1
  injection e1 with e1
  exact e1.symm
end Go.Dol
