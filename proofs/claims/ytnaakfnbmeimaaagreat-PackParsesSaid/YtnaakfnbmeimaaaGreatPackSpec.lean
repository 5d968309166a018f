/- What layer 'pack' computes, in plain Lean: how each object is kept behind the one ahead, a pack's bytes, and which pack bytes are. No program is in sight. Conditions: none. -/
import Derived.Test.YtnaakfnbmeimaaaGreatSumA
import Derived.Test.YtnaakfnbmeimaaaGreatDeltaA
import Derived.Test.YtnaakfnbmeimaaaGreatObjA
set_option linter.unusedVariables false
namespace Go.Dol
def magicL : List UInt8 := [68, 80, 75, 49]
def isObjL (ge : ByteArray → ByteArray → Bool) (raw : List UInt8) : Bool := (decO ge raw).isSome
def keep1 (raw : List UInt8) : Nat × List UInt8 := if (pressL raw).length < raw.length then (1, pressL raw) else (0, raw)
def mayTell (prev : List UInt8) (depth : Nat) (raw : List UInt8) : Bool := decide (0 < prev.length) && (decide (prev.head? = raw.head?) && decide (depth < 7))
def keepL (prev : List UInt8) (depth : Nat) (raw : List UInt8) : Nat × List UInt8 :=
  if mayTell prev depth raw = true ∧ (encL prev raw).length < (keep1 raw).2.length then (2, encL prev raw) else keep1 raw
def nextD (depth kind : Nat) : Nat := if kind = 2 then depth + 1 else 0
def partL (raw : List UInt8) (kb : Nat × List UInt8) : List UInt8 := sumOf raw ++ (UInt8.ofNat kb.1 :: text kb.2)
def partsL : List UInt8 → Nat → List (List UInt8) → List UInt8
  | _, _, [] => []
  | prev, d, r :: rs => partL r (keepL prev d r) ++ partsL r (nextD d (keepL prev d r).1) rs
def bodyL (rs : List (List UInt8)) : List UInt8 := magicL ++ (num rs.length ++ partsL [] 0 rs)
def packOk (ge : ByteArray → ByteArray → Bool) (rs : List (List UInt8)) : Prop := rs.length ≤ 4096 ∧ (∀ r ∈ rs, isObjL ge r = true) ∧ (rs.map sumOf).Nodup
instance (ge : ByteArray → ByteArray → Bool) (rs : List (List UInt8)) : Decidable (packOk ge rs) := by unfold packOk; infer_instance
def buildL (ge : ByteArray → ByteArray → Bool) (rs : List (List UInt8)) : Option (List UInt8) := if packOk ge rs then some (bodyL rs ++ sumOf (bodyL rs)) else none
structure Pt where
  id : List UInt8
  kind : Nat
  depth : Nat
  size : Nat
  raw : List UInt8
def openP (prev : List UInt8) (depth kind : Nat) (b : List UInt8) : Option (List UInt8) :=
  if kind = 0 then some b else if kind = 1 then openL b 2097152 else if kind = 2 then (if 0 < prev.length ∧ depth < 7 then applyL prev b 2097152 else none) else none
def onePt (ge : ByteArray → ByteArray → Bool) (most : Int) (prev : List UInt8) (depth : Nat) (l : List UInt8) : Option (Pt × List UInt8) :=
  match l.drop 32 with
  | [] => none
  | k :: q => match takeText q most with
    | none => none
    | some (t, rest) => match openP prev depth k.toNat t with
      | none => none
      | some raw => if sumOf raw = l.take 32 ∧ isObjL ge raw = true then some (⟨l.take 32, k.toNat, nextD depth k.toNat, t.length, raw⟩, rest) else none
def readPts (ge : ByteArray → ByteArray → Bool) : Nat → List UInt8 → Nat → List UInt8 → Option (List Pt × List UInt8)
  | 0, _, _, l => some ([], l)
  | n + 1, prev, d, l => match onePt ge 1099511627776 prev d l with
    | none => none
    | some (p, rest) => match readPts ge n p.raw p.depth rest with
      | none => none
      | some (ps, r) => some (p :: ps, r)
def parseL (ge : ByteArray → ByteArray → Bool) (b : List UInt8) : Option (List Pt) :=
  if b.length < 36 ∨ b.take 4 ≠ magicL ∨ sumOf (b.take (b.length - 32)) ≠ b.drop (b.length - 32) then none else
  match takeNum ((b.take (b.length - 32)).drop 4) with
  | none => none
  | some (n, p) => if 4096 < n then none else
    match readPts ge n [] 0 p with
    | none => none
    | some (ps, r) => if r = [] ∧ (ps.map (·.id)).Nodup then some ps else none
def ptsOf : List UInt8 → Nat → List (List UInt8) → List Pt
  | _, _, [] => []
  | prev, d, r :: rs => ⟨sumOf r, (keepL prev d r).1, nextD d (keepL prev d r).1, (keepL prev d r).2.length, r⟩ :: ptsOf r (nextD d (keepL prev d r).1) rs
theorem keep1_kind (raw : List UInt8) : (keep1 raw).1 = 0 ∧ (keep1 raw).2 = raw ∨ (keep1 raw).1 = 1 ∧ (keep1 raw).2 = pressL raw := by
  unfold keep1; split
  · exact .inr ⟨rfl, rfl⟩
  · exact .inl ⟨rfl, rfl⟩
theorem keep1_len (raw : List UInt8) : (keep1 raw).2.length ≤ raw.length := by
  unfold keep1; split
  · simp only; omega
  · exact Nat.le_refl _
theorem keepL_len (prev : List UInt8) (d : Nat) (raw : List UInt8) : (keepL prev d raw).2.length ≤ raw.length := by
  have := keep1_len raw
  unfold keepL; split
  · rename_i h; simp only; omega
  · exact this
theorem keepL_kind (prev : List UInt8) (d : Nat) (raw : List UInt8) : (keepL prev d raw).1 ≤ 2 := by
  unfold keepL; split
  · exact Nat.le_refl 2
  · rcases keep1_kind raw with h | h <;> rw [h.1] <;> omega
theorem mayTell_is {prev : List UInt8} {d : Nat} {raw : List UInt8} : mayTell prev d raw = true ↔ 0 < prev.length ∧ prev.head? = raw.head? ∧ d < 7 := by
  unfold mayTell; simp
theorem keepL_depth {prev : List UInt8} {d : Nat} {raw : List UInt8} (hd : d ≤ 7) : nextD d (keepL prev d raw).1 ≤ 7 := by
  unfold nextD
  split
  · rename_i h
    unfold keepL at h
    split at h
    · rename_i h2; have := mayTell_is.1 h2.1; omega
    · rcases keep1_kind raw with h3 | h3 <;> rw [h3.1] at h <;> omega
  · omega
theorem open_keep {prev : List UInt8} {d : Nat} {raw : List UInt8} (hp : prev.length ≤ 2097152) (hr : raw.length ≤ 2097152) : openP prev d (keepL prev d raw).1 (keepL prev d raw).2 = some raw := by
  unfold keepL
  split
  · rename_i h
    have h1 := mayTell_is.1 h.1
    unfold openP
    rw [if_neg (by simp), if_neg (by simp), if_pos rfl, if_pos ⟨h1.1, h1.2.2⟩]
    rw [apply_enc (by unfold mostLen; omega) (by unfold mostLen; omega), if_pos (by omega)]
  · rcases keep1_kind raw with h3 | h3
    · rw [h3.1, h3.2]; rfl
    · rw [h3.1, h3.2]
      unfold openP
      rw [if_neg (by simp), if_pos rfl, open_press (by unfold mostLen; omega), if_pos (by omega)]
theorem partL_head (raw : List UInt8) (kb : Nat × List UInt8) (l : List UInt8) : (partL raw kb ++ l).take 32 = sumOf raw ∧ (partL raw kb ++ l).drop 32 = UInt8.ofNat kb.1 :: (text kb.2 ++ l) := by
  have h := sumOf_length raw
  unfold partL
  rw [List.append_assoc]
  constructor
  · rw [← h, List.take_left]
  · rw [← h, List.drop_left, List.cons_append]
theorem one_part {ge : ByteArray → ByteArray → Bool} {prev : List UInt8} {d : Nat} {raw : List UInt8} (l : List UInt8) {most : Int} (hp : prev.length ≤ 2097152) (hr : raw.length ≤ 2097152) (ho : isObjL ge raw = true) (hm : (keepL prev d raw).2.length ≤ most) :
    onePt ge most prev d (partL raw (keepL prev d raw) ++ l) = some (⟨sumOf raw, (keepL prev d raw).1, nextD d (keepL prev d raw).1, (keepL prev d raw).2.length, raw⟩, l) := by
  have hk := keepL_kind prev d raw
  have hl := keepL_len prev d raw
  have hkn : (UInt8.ofNat (keepL prev d raw).1).toNat = (keepL prev d raw).1 := by rw [UInt8.toNat_ofNat']; omega
  unfold onePt
  rw [(partL_head _ _ _).1, (partL_head _ _ _).2]
  simp only
  rw [takeText_text _ _ _ hm (by unfold mostNum; omega)]
  simp only
  rw [hkn, open_keep hp hr]
  simp only
  rw [if_pos ⟨trivial, ho⟩]
theorem read_parts {ge : ByteArray → ByteArray → Bool} (hs : ∀ r, isObjL ge r = true → r.length ≤ 2097152) : ∀ (rs : List (List UInt8)) (prev : List UInt8) (d : Nat), prev.length ≤ 2097152 → (∀ r ∈ rs, isObjL ge r = true) →
    readPts ge rs.length prev d (partsL prev d rs) = some (ptsOf prev d rs, [])
  | [], _, _, _, _ => rfl
  | r :: rs, prev, d, hp, ho => by
    have h1 := ho r (List.mem_cons_self ..)
    have h2 := hs r h1
    have hl := keepL_len prev d r
    rw [List.length_cons, partsL, readPts, one_part (ge := ge) _ hp h2 h1 (by omega)]
    simp only
    rw [read_parts hs rs r _ h2 fun q hq => ho q (List.mem_cons_of_mem _ hq)]
    rfl
theorem pts_ids : ∀ (rs : List (List UInt8)) (prev : List UInt8) (d : Nat), (ptsOf prev d rs).map (·.id) = rs.map sumOf
  | [], _, _ => rfl
  | r :: rs, prev, d => by rw [ptsOf, List.map_cons, List.map_cons, pts_ids rs]
theorem magicL_length : magicL.length = 4 := rfl
theorem parse_build {ge : ByteArray → ByteArray → Bool} (hs : ∀ r, isObjL ge r = true → r.length ≤ 2097152) {rs : List (List UInt8)} {b : List UInt8} (h : buildL ge rs = some b) : parseL ge b = some (ptsOf [] 0 rs) := by
  unfold buildL at h
  split at h
  · rename_i hok
    obtain ⟨h1, h2, h3⟩ := hok
    injection h with h
    have hsl := sumOf_length (bodyL rs)
    have hbl : 4 ≤ (bodyL rs).length := by unfold bodyL; rw [List.length_append, magicL_length]; omega
    have e1 : b.length - 32 = (bodyL rs).length := by rw [← h, List.length_append, hsl]; omega
    have e2 : b.take (bodyL rs).length = bodyL rs := by rw [← h, List.take_left]
    have e3 : b.drop (bodyL rs).length = sumOf (bodyL rs) := by rw [← h, List.drop_left]
    have e4 : b.take 4 = magicL := by
      have : b.take 4 = ((b.take (bodyL rs).length).take 4) := by rw [List.take_take, Nat.min_eq_left hbl]
      rw [this, e2]
      unfold bodyL
      show List.take magicL.length _ = _
      exact List.take_left
    have e5 : (bodyL rs).drop 4 = num rs.length ++ partsL [] 0 rs := by unfold bodyL; show List.drop magicL.length _ = _; exact List.drop_left
    have e6 : b.length = (bodyL rs).length + 32 := by rw [← h, List.length_append, hsl]
    unfold parseL
    rw [e1, e2, e3, e4, e5, if_neg (by simp; omega), takeNum_num _ _ (by unfold mostNum; omega)]
    simp only
    rw [if_neg (by omega), read_parts hs rs [] 0 (by simp) h2]
    simp only
    rw [if_pos ⟨trivial, by rw [pts_ids]; exact h3⟩]
  · cases h
theorem openF_len (size : Nat) : ∀ (f : Nat) (out p r : List UInt8), openF size f out p = some r → out.length ≤ size → p.length ≤ 19 * (size - out.length) ∧ r.length = size
  | f, out, [], r, h, ho => by
    have h' : (if out.length = size then some out else none) = some r := by cases f <;> exact h
    split at h'
    · rename_i e; injection h' with h'; subst h'; exact ⟨by simp, e⟩
    · cases h'
  | 0, out, c :: q, r, h, ho => by cases h
  | f + 1, out, c :: q, r, h, ho => by
    unfold openF at h
    cases ht : takeNum (c :: q) with
    | none => rw [ht] at h; cases h
    | some x =>
      obtain ⟨t, rest⟩ := x
      have h9 := num_takeNum ht
      have hn := num_length_le 8 t (by have := h9.2; unfold mostNum at this; omega)
      have hlen : (c :: q).length = (num t).length + rest.length := by rw [h9.1, List.length_append]
      rw [ht] at h
      simp only at h
      split at h
      · split at h
        · rename_i h2
          have := openF_len size f _ _ _ h (by rw [List.length_append, List.length_take]; omega)
          rw [List.length_append, List.length_take, List.length_drop] at this
          omega
        · cases h
      · cases hd : takeNum rest with
        | none => rw [hd] at h; cases h
        | some y =>
          obtain ⟨d, rest2⟩ := y
          have h8 := num_takeNum hd
          have hm := num_length_le 8 d (by have := h8.2; unfold mostNum at this; omega)
          have hlen2 : rest.length = (num d).length + rest2.length := by rw [h8.1, List.length_append]
          rw [hd] at h
          simp only at h
          split at h
          · rename_i h2
            have := openF_len size f _ _ _ h (by rw [copyN_length]; omega)
            rw [copyN_length] at this
            omega
          · cases h
theorem openL_len {p r : List UInt8} {most : Int} (h : openL p most = some r) : p.length ≤ 19 * r.length + 9 ∧ (r.length : Int) ≤ most := by
  unfold openL at h
  cases ht : takeNum p with
  | none => rw [ht] at h; cases h
  | some x =>
    obtain ⟨size, rest⟩ := x
    have h9 := num_takeNum ht
    have hn := num_length_le 8 size (by have := h9.2; unfold mostNum at this; omega)
    have hlen : p.length = (num size).length + rest.length := by rw [h9.1, List.length_append]
    rw [ht] at h
    simp only at h
    split at h
    · rename_i h2
      have := openF_len size _ [] rest r h (by simp)
      simp only [List.length_nil] at this
      omega
    · cases h
theorem dF_len (base : List UInt8) (size : Nat) : ∀ (f : Nat) (out p r : List UInt8), dF base size f out p = some r → out.length ≤ size → p.length ≤ 19 * (size - out.length) ∧ r.length = size
  | f, out, [], r, h, ho => by
    have h' : (if out.length = size then some out else none) = some r := by cases f <;> exact h
    split at h'
    · rename_i e; injection h' with h'; subst h'; exact ⟨by simp, e⟩
    · cases h'
  | 0, out, c :: q, r, h, ho => by cases h
  | f + 1, out, c :: q, r, h, ho => by
    unfold dF at h
    cases ht : takeNum (c :: q) with
    | none => rw [ht] at h; cases h
    | some x =>
      obtain ⟨t, rest⟩ := x
      have h9 := num_takeNum ht
      have hn := num_length_le 8 t (by have := h9.2; unfold mostNum at this; omega)
      have hlen : (c :: q).length = (num t).length + rest.length := by rw [h9.1, List.length_append]
      rw [ht] at h
      simp only at h
      split at h
      · split at h
        · rename_i h2
          have := dF_len base size f _ _ _ h (by rw [List.length_append, List.length_take]; omega)
          rw [List.length_append, List.length_take, List.length_drop] at this
          omega
        · cases h
      · cases hd : takeNum rest with
        | none => rw [hd] at h; cases h
        | some y =>
          obtain ⟨d, rest2⟩ := y
          have h8 := num_takeNum hd
          have hm := num_length_le 8 d (by have := h8.2; unfold mostNum at this; omega)
          have hlen2 : rest.length = (num d).length + rest2.length := by rw [h8.1, List.length_append]
          rw [hd] at h
          simp only at h
          split at h
          · rename_i h2
            have hl : ((base.drop d).take (t / 2 + 1)).length = t / 2 + 1 := by rw [List.length_take, List.length_drop]; omega
            have := dF_len base size f _ _ _ h (by rw [List.length_append, hl]; omega)
            rw [List.length_append, hl] at this
            omega
          · cases h
theorem applyL_len {base p r : List UInt8} {most : Int} (h : applyL base p most = some r) : p.length ≤ 19 * r.length + 18 ∧ (r.length : Int) ≤ most := by
  unfold applyL at h
  cases ht : takeNum p with
  | none => rw [ht] at h; cases h
  | some x =>
    obtain ⟨n, q⟩ := x
    have h9 := num_takeNum ht
    have hn := num_length_le 8 n (by have := h9.2; unfold mostNum at this; omega)
    have hlen : p.length = (num n).length + q.length := by rw [h9.1, List.length_append]
    rw [ht] at h
    simp only at h
    split at h
    · cases hd : takeNum q with
      | none => rw [hd] at h; cases h
      | some y =>
        obtain ⟨size, rest⟩ := y
        have h8 := num_takeNum hd
        have hm := num_length_le 8 size (by have := h8.2; unfold mostNum at this; omega)
        have hlen2 : q.length = (num size).length + rest.length := by rw [h8.1, List.length_append]
        rw [hd] at h
        simp only at h
        split at h
        · rename_i h2
          have := dF_len base size _ [] rest r h (by simp)
          simp only [List.length_nil] at this
          omega
        · cases h
    · cases h
theorem openP_len {ge : ByteArray → ByteArray → Bool} (hs : ∀ r, isObjL ge r = true → r.length ≤ 2097152) {prev : List UInt8} {d k : Nat} {t raw : List UInt8} (h : openP prev d k t = some raw) (ho : isObjL ge raw = true) : t.length ≤ 1099511627776 := by
  have hr := hs raw ho
  unfold openP at h
  split at h
  · injection h with h; subst h; omega
  · split at h
    · have := (openL_len h).1; omega
    · split at h
      · split at h
        · have := (applyL_len h).1; omega
        · cases h
      · cases h
theorem takeText_most {q : List UInt8} {m m2 : Int} {t rest : List UInt8} (h : takeText q m = some (t, rest)) (hm : (t.length : Int) ≤ m2) : takeText q m2 = some (t, rest) := by
  obtain ⟨rfl, _, h3⟩ := text_takeText h
  exact takeText_text t rest m2 hm h3
theorem one_most {ge : ByteArray → ByteArray → Bool} (hs : ∀ r, isObjL ge r = true → r.length ≤ 2097152) (prev : List UInt8) (d : Nat) (l : List UInt8) : onePt ge l.length prev d l = onePt ge 1099511627776 prev d l := by
  unfold onePt
  cases hl : l.drop 32 with
  | nil => rfl
  | cons k q =>
    simp only
    have hq : q.length ≤ l.length := by have : (l.drop 32).length = q.length + 1 := by rw [hl]; rfl
                                        rw [List.length_drop] at this; omega
    cases h1 : takeText q l.length with
    | some x =>
      obtain ⟨t, rest⟩ := x
      simp only
      cases h3 : openP prev d k.toNat t with
      | none =>
        cases h2 : takeText q 1099511627776 with
        | none => rfl
        | some y =>
          obtain ⟨t2, rest2⟩ := y
          obtain ⟨e1, e2, e3⟩ := text_takeText h2
          have := takeText_most h2 (m2 := l.length) (by have := congrArg List.length e1; rw [List.length_append] at this; unfold text at this; rw [List.length_append] at this; omega)
          rw [h1] at this
          obtain ⟨rfl, rfl⟩ := Prod.mk.inj (Option.some.inj this)
          simp only
          rw [h3]
      | some raw =>
        by_cases hc : sumOf raw = l.take 32 ∧ isObjL ge raw = true
        · rw [takeText_most h1 (by have := openP_len hs h3 hc.2; omega)]
          simp only
          rw [h3]
        · simp only
          rw [if_neg hc]
          cases h2 : takeText q 1099511627776 with
          | none => rfl
          | some y =>
            obtain ⟨t2, rest2⟩ := y
            obtain ⟨e1, e2, e3⟩ := text_takeText h2
            have := takeText_most h2 (m2 := l.length) (by have := congrArg List.length e1; rw [List.length_append] at this; unfold text at this; rw [List.length_append] at this; omega)
            rw [h1] at this
            obtain ⟨rfl, rfl⟩ := Prod.mk.inj (Option.some.inj this)
            simp only
            rw [h3]
            simp only
            rw [if_neg hc]
    | none =>
      cases h2 : takeText q 1099511627776 with
      | none => rfl
      | some y =>
        obtain ⟨t2, rest2⟩ := y
        obtain ⟨e1, e2, e3⟩ := text_takeText h2
        have := takeText_most h2 (m2 := l.length) (by have := congrArg List.length e1; rw [List.length_append] at this; unfold text at this; rw [List.length_append] at this; omega)
        rw [h1] at this
        cases this
end Go.Dol
