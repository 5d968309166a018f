/- The walks of the layer 'pack': are bytes an object's; an object's bytes are few. Conditions: none beyond what each law names. What holds of layer 'loose', in plain Lean: a disk that holds objects alone, and what puts, drops and a cut leave. No program is in sight. Conditions: as each lemma names. The walks of the layer 'loose', its first part: an id's file name; may a disk and an id be. Conditions: an id of at most 2^46 bytes. The walk of the layer 'loose': an object's bytes, by its id. Conditions: a disk in good order; an id of at most 2^46 bytes. -/
import Derived.Test.YtecpbcmpncgokaaGreatDisk2
import Derived.Test.YtecpbcmpncgokaaGreatObjC
import Derived.Test.YtecpbcmpncgokaaGreatOkL
import Derived.Test.YtecpbcmpncgokaaGreatIter
import Derived.Test.YtecpbcmpncgokaaGreatSweepLaw
import Derived.Test.YtecpbcmpncgokaaGreatHexLaw
import Derived.Test.YtecpbcmpncgokaaGreatDiskM
import Derived.Test.YtecpbcmpncgokaaGreatSumA
import Derived.Test.YtecpbcmpncgokaaGreatPressA
namespace Go.Proofs.YtecpbcmpncgokaaGreat
open Go.RowKit Go.Dol
set_option linter.unusedVariables false

/-- An object's bytes are few. -/
theorem ents_few {l : List Ent} (h : entsB geS l = true) : (l.flatMap entB).length ≤ 600000 := by
  have h1 := flat_le entB 143 l fun e he => by
    obtain ⟨i, hi, rfl⟩ := List.getElem_of_mem he
    have hx := (entsB_parts h).1 i hi
    unfold entAt at hx
    rw [List.getElem?_eq_getElem hi] at hx
    simp only [Bool.and_eq_true, decide_eq_true_eq] at hx
    have h0 := part_size hx.1.1
    have h3 := tx_length (s := l[i].name) (by omega)
    have h4 := str_len l[i].id
    have h5 := hx.1.2
    unfold entB
    rw [List.length_append, List.length_cons, h4]
    omega
  have h2 := (entsB_parts h).2
  have h3 : l.length * 143 ≤ 4096 * 143 := Nat.mul_le_mul_right _ h2
  omega
theorem enc_few {o : Go.Dol.Obj} (h : checkB geS o = true) : (encO o).length ≤ 1048577 := by
  unfold encO
  rw [List.length_cons]
  rcases check_kind h with e | e | e | e
  · rw [if_pos e]
    have := check1_parts e h
    omega
  · rw [if_neg (by omega), if_pos e]
    have h1 := ents_few (check2_parts e h)
    have h3 := num_length_le 8 o.ents.length (by have := (entsB_parts (check2_parts e h)).2; omega)
    unfold entsL
    rw [List.length_append]
    omega
  · rw [if_neg (by omega), if_neg (by omega), if_pos e]
    obtain ⟨h1, h2, h3⟩ := check3_parts e h
    have h4 := pars_small h2
    have h6 := num_length_le 8 o.pars.length (by have := (parsB_parts h2).2; omega)
    have h7 := told_small h3
    have h8 := str_len o.tree
    unfold parsN at h4
    unfold parsL
    simp only [List.length_append]
    omega
  · rw [if_neg (by omega), if_neg (by omega), if_neg (by omega)]
    obtain ⟨h1, h2, h3⟩ := check4_parts e h
    have h7 := told_small h3
    have h8 := str_len o.target
    have h9 := tx_length (s := o.name) (by omega)
    simp only [List.length_append]
    omega
theorem obj_few : ∀ r, isObjL geS r = true → r.length ≤ 2097152 := by
  intro r h
  unfold isObjL at h
  cases hd : decO geS r with
  | none => rw [hd] at h; cases h
  | some o =>
    obtain ⟨h1, rfl⟩ := dec_is hd
    have := enc_few h1
    omega
end Go.Proofs.YtecpbcmpncgokaaGreat
namespace Go.Dol
set_option linter.unusedVariables false
theorem nameO_B {id : ByteArray} (h : id.size = 32) : nameB (nameO id) = true ∧ nameB (shd (nameO id)) = true ∧ endsT (nameO id) = false ∧ (nameO id).size ≠ 0 := by
  have hs := nameO_size id
  have hz : ∀ x ∈ (nameO id).data.toList, 47 ≤ x.toNat ∧ x.toNat ≤ 111 := by
    intro x hx
    rw [nameO_toList] at hx
    rcases List.mem_cons.1 hx with rfl | hx
    · decide
    · rcases List.mem_cons.1 hx with rfl | hx
      · decide
      · rcases hexOf_range _ _ hx with h | h <;> omega
  have h0 : (nameO id).data.toList.contains 0 = false := by
    rw [Bool.eq_false_iff]
    intro hc
    have := hz 0 (List.contains_iff_mem.1 hc)
    have e : (0 : UInt8).toNat = 0 := rfl
    omega
  have hn : nameB (nameO id) = true := by
    unfold nameB
    rw [h0, hs, h]
    rfl
  have hT : endsT (nameO id) = false := by
    unfold endsT
    refine decide_eq_false fun e => ?_
    have := hz 126 (List.mem_of_getLast? e)
    have e2 : (126 : UInt8).toNat = 126 := rfl
    omega
  have hsh : nameB (shd (nameO id)) = true := by
    have h1 : (shd (nameO id)).data.toList = (nameO id).data.toList ++ [126] := by
      unfold shd
      rw [ByteArray.data_append]
      simp
    unfold nameB
    rw [shd_size, hs, h, h1]
    have h2 : ((nameO id).data.toList ++ [126]).contains 0 = false := by
      rw [Bool.eq_false_iff]
      intro hc
      rcases List.mem_append.1 (List.contains_iff_mem.1 hc) with hm | hm
      · have := hz 0 hm
        have e : (0 : UInt8).toNat = 0 := rfl
        omega
      · cases List.mem_singleton.1 hm
    rw [h2]
    rfl
  exact ⟨hn, hsh, hT, by rw [hs, h]; decide⟩
theorem nameO_shd {a b : ByteArray} (h : a.size = 32) : nameO a ≠ shd (nameO b) := fun e => by
  have h1 := (nameO_B h).2.2.1
  rw [e] at h1
  unfold endsT at h1
  have h2 : (shd (nameO b)).data.toList.getLast? = some 126 := by
    unfold shd
    rw [ByteArray.data_append]
    simp
  rw [h2] at h1
  cases h1
theorem not_bad {a b : Bool} {k : Nat} (h1 : a = true) (h2 : k ≠ 0) (h3 : b = false) : ¬ (a = false ∨ k = 0 ∨ b = true) := by
  rintro (h | h | h)
  · rw [h1] at h; cases h
  · exact h2 h
  · rw [h3] at h; cases h
theorem shd_ends (n : ByteArray) : endsT (shd n) = true := by
  unfold endsT shd
  rw [ByteArray.data_append]
  simp
theorem rem_cap (D : Dk) (n : ByteArray) : (remD D n).2.cap = D.cap := by
  unfold remD
  split
  · rfl
  · unfold spendD
    split <;> rfl
theorem app_cap (D : Dk) (n : ByteArray) (b : List UInt8) : (appD D n b).2.cap = D.cap := by
  unfold appD roomD spendD
  split
  · rfl
  · split
    · rfl
    · split
      · rfl
      · split <;> rfl
theorem all_cap (n : ByteArray) : ∀ (l : List (List UInt8)) (D : Dk), (appAll D n l).2.cap = D.cap
  | [], D => rfl
  | c :: r, D => by
    rw [appAll_cons]
    split
    · exact app_cap D n c
    · rw [all_cap n r, app_cap]
theorem last_cap (D : Dk) (n : ByteArray) : (lstD D n).2.cap = D.cap := by
  have hs : (syncD D (shd n)).2.cap = D.cap := by
    unfold syncD spendD
    split
    · rfl
    · split <;> rfl
  unfold lstD
  split
  · exact hs
  · rw [← hs]
    generalize (syncD D (shd n)).2 = E
    unfold renD roomD spendD
    split
    · rfl
    · split
      · rfl
      · split
        · rfl
        · split <;> rfl
theorem save_cap (D : Dk) (n : ByteArray) (b : List UInt8) : (saveD D n b).2.cap = D.cap := by
  have hl : ∀ E : Dk, (laidD E n b).2.cap = E.cap := fun E => by
    unfold laidD
    split
    · exact all_cap ..
    · rw [last_cap, all_cap]
  have ht : ∀ E : Dk, (tailD E n b).2.cap = E.cap := fun E => by
    unfold tailD
    split
    · rfl
    · exact hl E
  unfold saveD
  split
  · rfl
  · split
    · rfl
    · split
      · split
        · exact rem_cap ..
        · rw [ht, rem_cap]
      · exact ht D
/-- Two rows of files that are looked up alike are the same. -/
theorem look_ext {l m : List Fil} (hl : InOrder l) (hm : InOrder m) (h : ∀ x, lookF l x = lookF m x) : l = m := by
  have h1 := filter_same hl hm (fun _ => true) fun x _ => h x
  have h2 : ∀ l : List Fil, (l.filter fun f => (fun _ => true) f.1) = l := fun l => List.filter_eq_self.2 fun _ _ => rfl
  rw [h2, h2] at h1
  exact h1
theorem idOfN_nameO {id : ByteArray} (h : id.size = 32) : idOfN (nameO id) = some id := by
  unfold idOfN
  rw [nameO_toList]
  simp only
  rw [unhex_hex]
  simp only
  rw [if_pos (by rw [Array.length_toList]; exact h)]
  cases id
  simp [idS]
theorem idOfN_is {n id : ByteArray} (h : idOfN n = some id) : n = nameO id ∧ id.size = 32 := by
  unfold idOfN at h
  split at h
  · rename_i t ht
    split at h
    · cases h
    · rename_i q hq
      split at h
      · rename_i h32
        injection h with h
        subst h
        refine ⟨ba_ext ?_, by show q.toArray.size = 32; rw [List.size_toArray]; exact h32⟩
        rw [ht, nameO_toList]
        have := hex_unhex t q hq
        simp [idS, this]
      · cases h
  · cases h
end Go.Dol
namespace Go.Proofs.YtecpbcmpncgokaaGreat
open Go.RowKit Go.Dol
set_option linter.unusedVariables false
/-- A disk that holds objects alone. -/
def FO (D : Dk) : Prop := ∀ f ∈ D.l, ∃ raw, isObjL geS raw = true ∧ f = (nameO (idO raw), pressL raw)
section
variable {D : Dk}
theorem FO.look (h : FO D) (ho : InOrder D.l) {n : ByteArray} {b : List UInt8} (hl : lookF D.l n = some b) : ∃ raw, isObjL geS raw = true ∧ n = nameO (idO raw) ∧ b = pressL raw := by
  obtain ⟨raw, h1, h2⟩ := h _ ((look_some ho).1 hl)
  injection h2 with h2 h3
  exact ⟨raw, h1, h2, h3⟩
theorem open_pressO {raw : List UInt8} (h : isObjL geS raw = true) : openL (pressL raw) 2097152 = some raw := by
  have := obj_few raw h
  rw [open_press (by unfold mostLen; omega), if_pos (by omega)]
theorem get_at {id : ByteArray} {raw : List UInt8} (h : isObjL geS raw = true) (hid : id = idO raw) (hl : lookF D.l (nameO id) = some (pressL raw)) : getO geS D id = .ok raw := by
  unfold getO
  rw [if_neg (by rw [hid, idO_size]; simp), hl]
  simp only
  rw [open_pressO h]
  simp only
  rw [if_pos ⟨by rw [hid]; simp [idO, idS], h⟩]
theorem get_none {id : ByteArray} (h32 : id.size = 32) (hl : lookF D.l (nameO id) = none) : getO geS D id = .error 6 := by
  unfold getO
  rw [if_neg (by rw [h32]; simp), hl]
theorem get_same {D' : Dk} {id : ByteArray} (h : lookF D'.l (nameO id) = lookF D.l (nameO id)) : getO geS D' id = getO geS D id := by
  unfold getO
  rw [h]
theorem get_ok {id : ByteArray} {raw : List UInt8} (h : getO geS D id = .ok raw) : id = idO raw ∧ isObjL geS raw = true ∧ ∃ b, lookF D.l (nameO id) = some b ∧ openL b 2097152 = some raw := by
  unfold getO at h
  split at h
  · cases h
  · split at h
    · cases h
    · rename_i b hb
      split at h
      · cases h
      · rename_i r hr
        split at h
        · rename_i hc
          injection h with h
          subst h
          refine ⟨?_, hc.2, b, hb, hr⟩
          cases id
          simp only [idO, idS]
          rw [hc.1]
        · cases h
theorem FO.get (h : FO D) (ho : InOrder D.l) {id : ByteArray} (h32 : id.size = 32) : (lookF D.l (nameO id) = none ∧ getO geS D id = .error 6) ∨ ∃ raw, isObjL geS raw = true ∧ id = idO raw ∧ lookF D.l (nameO id) = some (pressL raw) ∧ getO geS D id = .ok raw := by
  cases hl : lookF D.l (nameO id) with
  | none => exact .inl ⟨rfl, get_none h32 hl⟩
  | some b =>
    obtain ⟨raw, h1, h2, h3⟩ := h.look ho hl
    have hid := nameO_inj h2
    rw [h3] at hl ⊢
    exact .inr ⟨raw, h1, hid, rfl, get_at h1 hid hl⟩
theorem FO.shadow (h : FO D) (ho : InOrder D.l) (id : ByteArray) : lookF D.l (shd (nameO id)) = none := by
  cases hl : lookF D.l (shd (nameO id)) with
  | none => rfl
  | some b =>
    obtain ⟨raw, _, h2, _⟩ := h.look ho hl
    exact absurd h2.symm (nameO_shd (idO_size raw))
theorem FO.put (h : FO D) (ho : InOrder D.l) {raw : List UInt8} (h1 : isObjL geS raw = true) {l' : List Fil} (hl : l' = putF D.l (nameO (idO raw)) (pressL raw)) : ∀ f ∈ l', ∃ raw, isObjL geS raw = true ∧ f = (nameO (idO raw), pressL raw) := by
  intro f hf
  rw [hl] at hf
  rcases put_mem f hf with e | hm
  · exact ⟨raw, h1, e⟩
  · exact h f hm
theorem press_few {raw : List UInt8} (h : isObjL geS raw = true) : (pressL raw).length ≤ 2621449 := by
  have h1 := obj_few raw h
  have h2 := pressL_cost4 raw (by omega)
  omega
/-- What keeping an object does on a calm disk with room that holds objects alone: it collides; it is there; it is laid there. -/
theorem put_good (hC : CalmD D) (hF : FO D) {raw : List UInt8} (h1 : isObjL geS raw = true) (hroom : 83 + ((pressL raw).length : Int) ≤ frD D) :
    (∃ b, b ≠ raw ∧ getO geS D (idO raw) = .ok b ∧ putO geS D raw = (.error 7, D)) ∨ (getO geS D (idO raw) = .ok raw ∧ putO geS D raw = (.ok (idO raw), D)) ∨
    ∃ D', getO geS D (idO raw) = .error 6 ∧ putO geS D raw = (.ok (idO raw), D') ∧ CalmD D' ∧ FO D' ∧ D'.cap = D.cap ∧ D'.l = putF D.l (nameO (idO raw)) (pressL raw) ∧ lookF D.l (nameO (idO raw)) = none ∧ getO geS D' (idO raw) = .ok raw ∧
      (∀ x, x.size = 32 → x ≠ idO raw → getO geS D' x = getO geS D x) ∧ frD D' = frD D - (82 + ((pressL raw).length : Int)) := by
  have ho := hC.ok.ord
  have h32 := idO_size raw
  obtain ⟨b1, b2, b3, b4⟩ := nameO_B h32
  rcases hF.get ho h32 with ⟨hl, hg⟩ | ⟨r2, g1, g2, g3, g4⟩
  · refine .inr (.inr ?_)
    have hp := press_few h1
    have hsz := nameO_size (idO raw)
    rcases save_calm hC (n := nameO (idO raw)) (b := pressL raw) (fun _ => hF.shadow ho _) with e | ⟨_, e, _⟩ | ⟨_, _, _, D', e, L, l1, l2, l3⟩
    · unfold saveD at e
      rw [if_neg (not_bad b2 b4 b3)] at e
      split at e
      · cases (congrArg Prod.fst e)
      · rw [if_neg (by rw [hF.shadow ho]; simp)] at e
        unfold tailD at e
        rw [if_neg (by rw [hsz, h32]; omega)] at e
        obtain ⟨D2, e2, _⟩ := laid_ok hC b2 b4 (hF.shadow ho (idO raw)) (b := pressL raw) (by rw [hsz, h32]; omega)
        rw [e2] at e
        cases (congrArg Prod.fst e)
    · rw [hsz, h32] at e
      omega
    · have hl' : D'.l = putF D.l (nameO (idO raw)) (pressL raw) := look_ext L.calm.ok.ord (put_order ho) fun x => by
        rw [look_put ho]
        by_cases hx : x = nameO (idO raw)
        · rw [if_pos hx, hx, l1]
        · rw [if_neg hx]
          by_cases hx2 : x = shd (nameO (idO raw))
          · rw [hx2, l2, hF.shadow ho]
          · exact l3 x hx hx2
      have hcost : costs D'.l = costs D.l + (16 + ((nameO (idO raw)).size : Int) + (pressL raw).length) := by
        rw [hl', costs_put, drop_none hl]
        simp only [costF]
        omega
      refine ⟨D', hg, ?_, L.calm, hF.put ho h1 hl', L.cap, hl', hl, get_at h1 rfl l1, fun x hx hne => get_same (l3 _ (fun e => hne (nameO_inj e)) (nameO_shd hx)), ?_⟩
      · unfold putO
        rw [if_neg (by rw [h1]; simp), hg]
        simp only
        rw [if_neg (by decide), e]
        rfl
      · rw [hC.free, L.calm.free, L.cap, hcost, hsz, h32]
        omega
  · by_cases hr : r2 = raw
    · subst hr
      refine .inr (.inl ⟨g4, ?_⟩)
      unfold putO
      rw [if_neg (by rw [h1]; simp), g4]
      simp only
      rw [if_pos trivial]
    · refine .inl ⟨r2, hr, g4, ?_⟩
      unfold putO
      rw [if_neg (by rw [h1]; simp), g4]
      simp only
      rw [if_neg hr]
theorem FO.ids (h : FO D) : idsO D = D.l.map fun f => (idOfN f.1).getD ⟨#[]⟩ := by
  unfold idsO
  have h' : ∀ f ∈ D.l, ∃ raw, isObjL geS raw = true ∧ f = (nameO (idO raw), pressL raw) := h
  generalize D.l = l at h'
  induction l with
  | nil => rfl
  | cons f r ih =>
    obtain ⟨raw, _, e⟩ := h' f (List.mem_cons_self ..)
    have e1 : idOfN f.1 = some (idO raw) := by rw [e]; exact idOfN_nameO (idO_size raw)
    rw [List.map_cons, List.filterMap_cons, e1, List.map_cons, e1]
    simp only [Option.getD_some]
    rw [ih fun g hg => h' g (List.mem_cons_of_mem _ hg)]
theorem FO.idsLen (h : FO D) : (idsO D).length = D.l.length := by rw [h.ids, List.length_map]
theorem idsO_mem {id : ByteArray} (ho : InOrder D.l) : id ∈ idsO D ↔ id.size = 32 ∧ (lookF D.l (nameO id)).isSome = true := by
  unfold idsO
  rw [List.mem_filterMap]
  constructor
  · rintro ⟨n, hn, e⟩
    obtain ⟨f, hf, rfl⟩ := List.mem_map.1 hn
    obtain ⟨e1, e2⟩ := idOfN_is e
    refine ⟨e2, ?_⟩
    rw [← e1, (look_some ho).2 (show (f.1, f.2) ∈ D.l from hf)]
    rfl
  · rintro ⟨h1, h2⟩
    obtain ⟨b, hb⟩ := Option.isSome_iff_exists.1 h2
    exact ⟨nameO id, List.mem_map.2 ⟨_, (look_some ho).1 hb, rfl⟩, idOfN_nameO h1⟩
/-- A file that is taken away. -/
theorem drop_good (hC : CalmD D) (hF : FO D) {id : ByteArray} (h32 : id.size = 32) {b : List UInt8} (hl : lookF D.l (nameO id) = some b) :
    ∃ D', dropO D id = (0, D') ∧ CalmD D' ∧ FO D' ∧ D'.cap = D.cap ∧ D'.l = dropF D.l (nameO id) ∧ getO geS D' id = .error 6 ∧ (∀ x, x.size = 32 → x ≠ id → getO geS D' x = getO geS D x) ∧ frD D' = frD D + (82 + (b.length : Int)) := by
  have ho := hC.ok.ord
  obtain ⟨b1, b2, b3, b4⟩ := nameO_B h32
  obtain ⟨e, L⟩ := rem_ok hC hl b1
  refine ⟨_, ?_, L.calm, ?_, rfl, rfl, ?_, ?_, ?_⟩
  · unfold dropO
    rw [if_neg (by rw [h32]; simp), if_pos (by rw [hl]; rfl), e]
  · intro f hf
    exact hF f (drop_mem f hf)
  · exact get_none h32 (by show lookF (dropF D.l (nameO id)) _ = _; rw [look_drop ho, if_pos rfl])
  · intro x hx hne
    refine get_same ?_
    show lookF (dropF D.l (nameO id)) _ = _
    rw [look_drop ho, if_neg (fun e => hne (nameO_inj e))]
  · rw [hC.free, L.calm.free]
    show D.cap - costs (dropF D.l (nameO id)) = _
    have hc := costs_drop hl
    have hs := nameO_size id
    unfold costF at hc
    simp only at hc
    rw [hs, h32] at hc
    omega
/-- The disk anew, as it was. -/
theorem put_back (ho : InOrder D.l) {n : ByteArray} {b : List UInt8} (hl : lookF D.l n = some b) : putF (dropF D.l n) n b = D.l :=
  look_ext (put_order (drop_order ho)) ho fun x => by
    rw [look_put (drop_order ho), look_drop ho]
    by_cases hx : x = n
    · rw [if_pos hx, hx, hl]
    · rw [if_neg hx, if_neg hx]
theorem drop_one (ho : InOrder D.l) {n : ByteArray} {b : List UInt8} (hl : lookF D.l n = some b) : (dropF D.l n).length + 1 = D.l.length := by
  have h := congrArg List.length (put_back ho hl)
  rw [put_len, look_drop ho, if_pos rfl] at h
  exact h
theorem _root_.Go.Dol.OkD.sweepL {D : Dk} (h : OkD D) : ∀ l, OkD (sweepL D l).2 := by
  intro l
  induction l generalizing D with
  | nil => exact h
  | cons n r ih =>
    rw [sweepL_cons]
    split
    · split
      · exact h.rem n
      · exact ih (h.rem n)
    · exact ih h
/-- What keeping an object leaves on a disk that holds objects alone, wherever the power goes; swept, and the power on again. -/
theorem cut_good (hC : CalmD D) (hF : FO D) {raw : List UInt8} (h1 : isObjL geS raw = true) (k : Int) (hk0 : 0 ≤ k) (hk : k ≤ 63) :
    ((putO geS (cutD D k).2 raw).1 = .error 7 ∧ ∃ b, b ≠ raw ∧ getO geS D (idO raw) = .ok b) ∨
    ∃ E, (putO geS (cutD D k).2 raw).2 = E ∧ OkD (onD E) ∧ CalmW (onD E) ∧ ((getO geS (onD E) (idO raw) = .ok raw) ∨ getO geS (onD E) (idO raw) = .error 6 ∧ ∃ j, (putO geS (cutD D k).2 raw).1 = .error j ∧ j ≠ 7 ∧ j ≠ 0) ∧
      (∀ x, x.size = 32 → x ≠ idO raw → getO geS (onD E) x = getO geS D x) ∧ (∀ b, getO geS D (idO raw) = .ok b → b = raw ∧ getO geS (onD E) (idO raw) = .ok raw) ∧
      ∃ S, sweepD (onD E) = (0, S) ∧ CalmD S ∧ FO S ∧ S.cap = D.cap ∧ (S.l = D.l ∨ S.l = putF D.l (nameO (idO raw)) (pressL raw)) := by
  have ho := hC.ok.ord
  have h32 := idO_size raw
  obtain ⟨b1, b2, b3, b4⟩ := nameO_B h32
  have hcut : cutD D k = (0, { D with left := k }) := by
    unfold cutD
    rw [if_neg (by omega), hC.dark, if_neg (by decide)]
  rw [hcut]
  simp only
  obtain ⟨D1, hD1⟩ : ∃ D1 : Dk, D1 = { D with left := k } := ⟨_, rfl⟩
  rw [← hD1]
  have hl1 : D1.l = D.l := by rw [hD1]
  have hok1 : OkD D1 := by
    have := hC.ok.cut (k := k) (by omega)
    rw [hcut] at this
    rw [hD1]
    exact this
  have hdk1 : D1.dark = false := by rw [hD1]; exact hC.dark
  have hcap1 : D1.cap = D.cap := by rw [hD1]
  have hg1 : ∀ x, getO geS D1 x = getO geS D x := fun x => get_same (by rw [hl1])
  have hsame : ∀ E : Dk, OkD E → E.l = D.l → E.cap = D.cap → OkD (onD E) ∧ CalmW (onD E) ∧ (∀ x, getO geS (onD E) x = getO geS D x) ∧ ∃ S, sweepD (onD E) = (0, S) ∧ CalmD S ∧ FO S ∧ S.cap = D.cap ∧ S.l = D.l := by
    intro E hE hEl hEc
    have hC1 : CalmW (onD E) := ⟨rfl, rfl⟩
    obtain ⟨S, s1, s2, s3, s4⟩ := sweep_calm hE.on.toW hC1
    have hSl : S.l = D.l := by
      rw [s4]
      show E.l.filter _ = D.l
      rw [hEl]
      refine List.filter_eq_self.2 fun f hf => ?_
      obtain ⟨r, _, e⟩ := hF f hf
      rw [e]
      rw [(nameO_B (idO_size r)).2.2.1]
      rfl
    have hSok : OkD S := by
      have := hE.on.sweepL ((onD E).l.map Prod.fst)
      change OkD (sweepD (onD E)).2 at this
      rw [s1] at this
      exact this
    exact ⟨hE.on, hC1, fun x => get_same (by show lookF E.l _ = _; rw [hEl]), S, s1, ⟨hSok, s2.left, s2.dark⟩, fun f hf => hF f (by rw [← hSl]; exact hf), by rw [s3]; exact hEc, hSl⟩
  rcases hF.get ho h32 with ⟨hl, hg⟩ | ⟨r2, g1, g2, g3, g4⟩
  · have hg' := (hg1 (idO raw)).trans hg
    have hput : putO geS D1 raw = if (saveD D1 (nameO (idO raw)) (pressL raw)).1 ≠ 0 then (.error (saveD D1 (nameO (idO raw)) (pressL raw)).1, (saveD D1 (nameO (idO raw)) (pressL raw)).2) else (.ok (idO raw), (saveD D1 (nameO (idO raw)) (pressL raw)).2) := by
      unfold putO
      rw [if_neg (by rw [h1]; simp), hg']
      simp only
      rw [if_neg (by decide)]
    have hsok := hok1.save (nameO (idO raw)) (pressL raw)
    obtain ⟨s, E, hs⟩ : ∃ s E, saveD D1 (nameO (idO raw)) (pressL raw) = (s, E) := ⟨_, _, rfl⟩
    have hEc : E.cap = D.cap := by
      have := save_cap D1 (nameO (idO raw)) (pressL raw)
      rw [hs] at this
      exact this.trans hcap1
    rcases save_out hok1.ord hdk1 (nameO (idO raw)) (pressL raw) with ⟨hbad, _⟩ | ⟨_, _, _, hO⟩
    · rcases hbad with hb | hb | hb
      · rw [b2] at hb; cases hb
      · exact absurd hb b4
      · rw [b3] at hb; cases hb
    rw [hs] at hsok hput hO
    simp only at hsok hput hO
    have hno : lookF D.l (shd (nameO (idO raw))) = none := hF.shadow ho _
    have hoth : ∀ x, x.size = 32 → x ≠ idO raw → getO geS (onD E) x = getO geS D x := fun x hx hne => get_same (by
      show lookF E.l _ = _
      rw [hO.oth _ (fun e => hne (nameO_inj e)) (nameO_shd hx), hl1])
    have hnone : ∀ b, getO geS D (idO raw) = .ok b → b = raw ∧ getO geS (onD E) (idO raw) = .ok raw := fun b hb => by rw [hg] at hb; cases hb
    have hC1 : CalmW (onD E) := ⟨rfl, rfl⟩
    obtain ⟨S, s1, s2, s3, s4⟩ := sweep_calm hsok.on.toW hC1
    have hSok : OkD S := by
      have := hsok.on.sweepL ((onD E).l.map Prod.fst)
      change OkD (sweepD (onD E)).2 at this
      rw [s1] at this
      exact this
    have hlookS : ∀ x, lookF S.l x = if (!endsT x) = true then lookF E.l x else none := fun x => by
      rw [s4]
      exact look_filter hsok.ord (fun n => !endsT n) x
    have hsh : endsT (shd (nameO (idO raw))) = true := shd_ends _
    have hD0 : ∀ x, endsT x = true → lookF D.l x = none := fun x hx => by
      cases hlx : lookF D.l x with
      | none => rfl
      | some b =>
        obtain ⟨r, _, e, _⟩ := hF.look ho hlx
        rw [e, (nameO_B (idO_size r)).2.2.1] at hx
        cases hx
    rcases hO.way with ⟨h0, hP, _⟩ | ⟨hw, hkeep⟩
    · have hSl : S.l = putF D.l (nameO (idO raw)) (pressL raw) := look_ext hSok.ord (put_order ho) fun x => by
        rw [hlookS, look_put ho]
        by_cases hx : x = nameO (idO raw)
        · rw [if_pos hx, hx, b3]
          exact hP
        · rw [if_neg hx]
          by_cases hT : endsT x = true
          · rw [hT, hD0 x hT]; rfl
          · rw [if_pos (by simpa using hT), hO.oth x hx (fun e => hT (by rw [e]; exact hsh)), hl1]
      refine .inr ⟨E, by rw [hput, if_neg (by simpa using h0)], hsok.on, hC1, .inl (get_at h1 rfl hP), hoth, hnone, S, s1, ⟨hSok, s2.left, s2.dark⟩, hF.put ho h1 hSl, by rw [s3]; exact hEc, .inr hSl⟩
    · rw [hl1, hl] at hkeep
      have hs0 : s ≠ 0 := by rcases hw with ⟨h, _⟩ | ⟨h, _⟩ <;> omega
      have hSl : S.l = D.l := look_ext hSok.ord ho fun x => by
        rw [hlookS]
        by_cases hx : x = nameO (idO raw)
        · rw [hx, hkeep, hl]
          split <;> rfl
        · by_cases hT : endsT x = true
          · rw [hT, hD0 x hT]; rfl
          · rw [if_pos (by simpa using hT), hO.oth x hx (fun e => hT (by rw [e]; exact hsh)), hl1]
      refine .inr ⟨E, by rw [hput, if_pos hs0], hsok.on, hC1, .inr ⟨get_none h32 hkeep, s, by rw [hput, if_pos hs0], by rcases hw with ⟨h, _⟩ | ⟨h, _⟩ <;> omega, hs0⟩, hoth, hnone, S, s1, ⟨hSok, s2.left, s2.dark⟩, fun f hf => hF f (by rw [← hSl]; exact hf), by rw [s3]; exact hEc, .inl hSl⟩
  · have hg' := (hg1 (idO raw)).trans g4
    by_cases hr : r2 = raw
    · subst hr
      obtain ⟨c1, c2, c3, S, c4, c5, c6, c7, c8⟩ := hsame D1 hok1 hl1 hcap1
      refine .inr ⟨D1, ?_, c1, c2, .inl (by rw [c3, g4]), fun x _ _ => c3 x, fun b hb => ?_, S, c4, c5, c6, c7, .inl c8⟩
      · unfold putO
        rw [if_neg (by rw [h1]; simp), hg']
        simp only
        rw [if_pos trivial]
      · rw [g4] at hb
        injection hb with hb
        exact ⟨hb.symm, by rw [c3, g4]⟩
    · refine .inl ⟨?_, r2, hr, g4⟩
      unfold putO
      rw [if_neg (by rw [h1]; simp), hg']
      simp only
      rw [if_neg hr]
end
end Go.Proofs.YtecpbcmpncgokaaGreat
namespace Go.Proofs.YtecpbcmpncgokaaGreat
open Go.RowKit Go.Dol
set_option linter.unusedVariables false
theorem SumO_calls (A : Option Addr) (l : List UInt8) (c : Nat) (w : World) (hr : Rd w w.heap.size 1 A l.length (bc l)) (hl : l.length ≤ 140737488355296) :
    Calls Tryz.prog 45 #[.slice A l.length c] w fun e w' => e = .returned (.string (idO l)) ∧ Below w.heap.size w w' := (Sum_calls A l c w hr hl).mono fun e w' ⟨l', h, he, hb⟩ => ⟨by rw [he, h.out]; rfl, hb⟩
theorem name_add (l' : List UInt8) (id : ByteArray) (w' : World) (e : l' = hexOf id.data.toList) (hl : id.size ≤ 70368744177600) : (Op.stringOp .add ⟨#[111, 47]⟩ ⟨l'.toArray⟩).run Tryz.prog w' = .ok (.string (nameO id)) w' := by
  rw [show nameO id = (⟨#[111, 47]⟩ : ByteArray) ++ ⟨l'.toArray⟩ by rw [e]; rfl]
  refine run_string_add_sum w' _ _ ?_
  show 2 + l'.toArray.size ≤ _
  rw [List.size_toArray, e, hexOf_length, str_len]
  omega
theorem Name_calls (id : ByteArray) (w : World) (hl : id.size ≤ 70368744177600) :
    Calls Tryz.prog 41 #[.string id] w fun e w' => e = .returned (.string (nameO id)) ∧ Below w.heap.size w w' := by
  have HX := Hex_calls id w hl
  go_enter Tryz.func41, Tryz.ntmps41
  go_wp2_with fail
  refine HX.mono ?_
  rintro e w1 ⟨l', hl', rfl, hb1⟩
  have ad1 := name_add l' id w1 hl'.out hl
  go_wp2_with fail
  go_ret
  exact ⟨rfl, hb1⟩
section
variable {w : World} {g m : Nat} {D : Dk}
theorem read_o (D : Dk) : (readD D ⟨#[111, 47]⟩).2 ≠ 1 := by
  have hn : nameB ⟨#[111, 47]⟩ = true := by decide
  unfold readD
  rw [if_neg (by rw [hn]; decide)]
  split <;> simp
theorem right_calls (h : Dsk w g m D) (hK : OkW D) (id : ByteArray) :
    Calls Tryz.prog 97 #[.pointer (some ⟨g, 0, none⟩), .string id] w fun e w' => e = .returned (.bool (decide (id.size = 32))) ∧ Below w.heap.size w w' := by
  have HR := Lib.hid (Read_calls h hK.ord ⟨#[111, 47]⟩ (fun b hb => hK.small' hb))
  have h1 := read_o D
  obtain ⟨r, hr⟩ : ∃ r, r = readD D ⟨#[111, 47]⟩ := ⟨_, rfl⟩
  rw [← hr] at h1 HR
  obtain ⟨r1, r2⟩ := r
  have e1 : (r2 != 1) = true := bne_iff_ne.2 h1
  have e3 : (r2 == 1) = false := beq_eq_false_iff_ne.2 h1
  clear h1 hr
  have e2 : ((id.size : Int) == 32) = decide (id.size = 32) := by
    by_cases hs : id.size = 32
    · rw [decide_eq_true hs]; simp [hs]
    · rw [decide_eq_false hs]; simp; omega
  go_enter Tryz.func97, Tryz.ntmps97
  go_wp2_with fail
  refine HR.out.mono ?_
  rintro e w1 ⟨l', A, c, hl', rfl, ho, hb⟩
  go_wp2_with fail
  go_ret
  exact ⟨rfl, hb⟩
end
end Go.Proofs.YtecpbcmpncgokaaGreat
namespace Go.Dol
open Go.RowKit
theorem str_bne {a b : ByteArray} (h : a = b) : (a.toList != b.toList) = false := by rw [h]; simp
theorem str_bne' {a b : ByteArray} (h : a ≠ b) : (a.toList != b.toList) = true := by
  have := str_ne_b' h
  unfold bne
  rw [this]
  rfl
theorem ba_of {l : List UInt8} {b : ByteArray} : (⟨l.toArray⟩ : ByteArray) = b ↔ l = b.data.toList := by
  constructor
  · intro h
    rw [← h]
  · intro h
    exact ba_ext (by simpa using h)
end Go.Dol
namespace Go.Proofs.YtecpbcmpncgokaaGreat
open Go.RowKit Go.Dol
set_option linter.unusedVariables false
section
variable {w : World} {g m : Nat} {D : Dk}
set_option maxRecDepth 100000 in
set_option maxHeartbeats 1600000 in
theorem GetO_calls (h : Dsk w g m D) (hK : OkW D) (id : ByteArray) (hid : id.size ≤ 70368744177600) :
    Calls Tryz.prog 44 #[.pointer (some ⟨g, 0, none⟩), .string id] w (RetGet w (getO geS D id)) := by
  obtain ⟨r, hr⟩ : ∃ r, r = getO geS D id := ⟨_, rfl⟩
  rw [← hr]
  have HR := Lib.hid hr
  clear hr
  have HRi := Lib.hid (right_calls h hK id)
  go_enter Tryz.func44, Tryz.ntmps44
  go_wp2_with fail
  refine HRi.out.mono ?_
  by_cases hs : id.size = 32
  · have h32 := Lib.hid hs
    have hnB := (nameO_B hs).1
    clear hs
    rw [decide_eq_true h32.out]
    rintro e w1 ⟨rfl, hb1⟩
    have h1 := h.below hb1
    have HN := Lib.hid (Name_calls id w1 hid)
    go_wp2_with fail
    refine HN.out.mono ?_
    rintro e w2 ⟨rfl, hb2⟩
    have h2 := h1.below hb2
    have hb02 := hb1.next hb2
    have hRd := Read_calls h2 hK.ord (nameO id) (fun b hb => hK.small' hb)
    cases hl : lookF D.l (nameO id) with
    | none =>
      have hrd : readD D (nameO id) = ([], 3) := by
        unfold readD
        rw [if_neg (by rw [hnB]; decide), hl]
      rw [hrd] at hRd
      have HRd := Lib.hid hRd
      have hr : Hid (r = .error 6) := by
        unfold Hid
        rw [HR.out]
        unfold getO
        rw [if_neg (by rw [h32.out]; simp), hl]
      clear hRd hl hrd
      go_wp2_with fail
      refine HRd.out.mono ?_
      rintro e w3 ⟨b, A, c, hbr, rfl, ho3, hb3⟩
      have hb03 := hb02.next hb3
      obtain rfl : b = [] := hbr.out
      go_wp2_with fail
      go_ret2
      rw [hr.out]
      exact ⟨hb03, rfl⟩
    | some q =>
      have hrd : readD D (nameO id) = (q, 0) := by
        unfold readD
        rw [if_neg (by rw [hnB]; decide), hl]
      rw [hrd] at hRd
      have HRd := Lib.hid hRd
      clear hRd hrd
      go_wp2_with fail
      refine HRd.out.mono ?_
      rintro e w3 ⟨b, A, c, hbr, rfl, ho3, hb3⟩
      have hb03 := hb02.next hb3
      have hbq : Hid (b = q) := hbr
      have hbl := hK.small' hl
      have hcl := own_le ho3
      have hbl' : b.length ≤ 140737488355328 := by rw [hbq.out]; exact hbl
      have HOp := Lib.hid (Open_own A b c 2097152 w3 (Rd.of_own ho3) hbl' hcl.1 (fun s r _ h => by omega))
      clear hbr HRd
      go_wp2_with fail
      refine HOp.out.mono ?_
      cases hop : openL b 2097152 with
      | none =>
        have hr : Hid (r = .error 2) := by
          unfold Hid
          rw [HR.out]
          unfold getO
          rw [if_neg (by rw [h32.out]; simp), hl]
          simp only
          rw [← hbq.out, hop]
        rintro e w4 ⟨rfl, hb4⟩
        clear hl hop
        go_wp2_with fail
        go_ret2
        rw [hr.out]
        exact ⟨hb03.next hb4, rfl⟩
      | some raw =>
        rintro e w4 ⟨p, A4, c4, hp, rfl, ho4, hb4, hp1, hp2⟩
        have hb04 := hb03.next hb4
        have hpl : p.length ≤ 2097152 := by
          rw [hp.out]
          have := (openL_len hop).2
          omega
        have HS := Lib.hid (SumO_calls A4 p c4 w4 (Rd.of_own ho4) (by omega))
        have hr : Hid (r = if sumOf p = id.data.toList ∧ isObjL geS p = true then .ok p else .error 2) := by
          unfold Hid
          rw [HR.out]
          unfold getO
          rw [if_neg (by rw [h32.out]; simp), hl]
          simp only
          rw [← hbq.out, hop]
          simp only
          rw [hp.out]
        clear hl hop hbq
        go_wp2_with fail
        refine HS.out.mono ?_
        rintro e w5 ⟨rfl, hb5⟩
        have hb05 := hb04.next hb5
        have ho5 := own_belowW ho4 hb5
        by_cases hs : idO p = id
        · have q1 : ((idO p).toList != id.toList) = false := str_bne hs
          have q2 : ((idO p).toList == id.toList) = true := str_eq_b' hs
          have hS : Hid (sumOf p = id.data.toList) := ba_of.1 hs
          have hD := Decode_calls A4 p c4 w5 (Rd.of_own ho5) hp1 hp2 (by omega)
          clear hs
          cases hdec : decO geS p with
          | none =>
            rw [hdec] at hD
            have HD := Lib.hid hD
            have hr2 : Hid (r = .error 2) := by
              unfold Hid
              rw [hr.out, if_neg (by unfold isObjL; rw [hdec]; simp)]
            clear hD hdec
            go_wp2_with fail
            refine HD.out.mono ?_
            rintro e w6 ⟨rfl, hb6⟩
            go_wp2_with fail
            go_ret2
            rw [hr2.out]
            exact ⟨(hb05.next hb6).alloc (hb05.next hb6).size _, rfl⟩
          | some o =>
            rw [hdec] at hD
            have HD := Lib.hid hD
            have hr2 : Hid (r = .ok p) := by
              unfold Hid
              rw [hr.out, if_pos ⟨hS.out, by unfold isObjL; rw [hdec]; rfl⟩]
            clear hD hdec
            go_wp2_with fail
            refine HD.out.mono ?_
            rintro e w6 ⟨k, Ad, d, cd, Ae, en, ce, tr, Ap, pa, cp, ta, na, wh, st, te, ho, rfl, _, _, _, hb6, _, _, _⟩
            have ho6 := own_belowW ho5 hb6
            have hsz : w.heap.size ≤ w3.heap.size := hb03.size
            clear ho
            go_wp2_with fail
            go_ret2
            rw [hr2.out]
            exact ⟨(hb05.next hb6).alloc (hb05.next hb6).size _, p, A4, c4, rfl, rfl, (ho6.alloc _).base hsz, hp1, hp2⟩
        · have q1 : ((idO p).toList != id.toList) = true := str_bne' hs
          have q2 : ((idO p).toList == id.toList) = false := str_ne_b' hs
          have hr2 : Hid (r = .error 2) := by
            unfold Hid
            rw [hr.out, if_neg (fun h => hs (ba_of.2 h.1))]
          clear hs
          go_wp2_with fail
          go_ret2
          rw [hr2.out]
          exact ⟨hb05, rfl⟩
  · have h32 := Lib.hid hs
    have hr : Hid (r = .error 1) := by
      unfold Hid
      rw [HR.out]
      unfold getO
      rw [if_pos hs]
    clear hs
    rw [decide_eq_false h32.out]
    rintro e w1 ⟨rfl, hb1⟩
    go_wp2_with fail
    go_ret2
    rw [hr.out]
    exact ⟨hb1, rfl⟩
end
end Go.Proofs.YtecpbcmpncgokaaGreat
