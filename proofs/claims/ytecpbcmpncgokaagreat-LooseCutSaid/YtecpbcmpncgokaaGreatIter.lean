/- What a save leaves, in plain Lean. No program is in sight. Conditions: as each lemma names: a disk in good order, its power on, no cut to come. What keeps a disk in good order, whatever its files cost together: commands, saves, sweeps. No program is in sight. Conditions: as each lemma names. What a save leaves wherever the power goes, in plain Lean. No program is in sight. Conditions: files in order; the power is on. What a disk's turning leaves as it lies: bytes, rows, files. Conditions: none beyond what each law names. The library's contracts on slices.Sorted(maps.Keys(m)), at this seat. Conditions: as the library's. -/
import Derived.Test.YtecpbcmpncgokaaGreatOkL
import Derived.Test.YtecpbcmpncgokaaGreatDisk2
import Derived.Shelf.SlIter.Nil
import Derived.Shelf.SortM.Plain
import Derived.Shelf.SortM.SortNone
import Derived.Ground.GgzProg
import Derived.Ground.SlgmProg
import Derived.Test.YtecpbcmpncgokaaGreatRows
namespace Go.Dol
open Go.RowKit
set_option linter.unusedVariables false
theorem chunksG_flat (l : List UInt8) : (chunksG l).flatten = l := by
  induction h : l.length using Nat.strongRecOn generalizing l with
  | ind n ih =>
    rw [chunksG]
    split
    · rename_i h0
      rw [List.eq_nil_of_length_eq_zero h0]
      rfl
    · rename_i h0
      rw [List.flatten_cons, ih (l.drop 64).length (by rw [List.length_drop]; omega) _ rfl, List.take_append_drop]
theorem chunksOf_flat (l : List UInt8) : (chunksOf l).flatten = l := by
  unfold chunksOf
  split
  · rename_i h0
    rw [List.eq_nil_of_length_eq_zero h0]
    rfl
  · exact chunksG_flat l
theorem chunksG_small (l : List UInt8) : ∀ c ∈ chunksG l, c.length ≤ 64 := by
  induction h : l.length using Nat.strongRecOn generalizing l with
  | ind n ih =>
    intro c hc
    rw [chunksG] at hc
    split at hc
    · cases hc
    · rcases List.mem_cons.1 hc with rfl | hc
      · rw [List.length_take]; omega
      · exact ih (l.drop 64).length (by rw [List.length_drop]; omega) _ rfl c hc
theorem chunksOf_small (l : List UInt8) : ∀ c ∈ chunksOf l, c.length ≤ 64 := by
  unfold chunksOf
  split
  · intro c hc
    rw [List.mem_singleton.1 hc]
    simp
  · exact chunksG_small l
theorem chunksG_len (l : List UInt8) : (chunksG l).length = (l.length + 63) / 64 := by
  induction h : l.length using Nat.strongRecOn generalizing l with
  | ind n ih =>
    rw [chunksG]
    split
    · simp; omega
    · rw [List.length_cons, ih (l.drop 64).length (by rw [List.length_drop]; omega) _ rfl, List.length_drop]
      omega
theorem chunksOf_len (l : List UInt8) : (chunksOf l).length = max 1 ((l.length + 63) / 64) := by
  unfold chunksOf
  split
  · rename_i h0
    rw [h0]
    rfl
  · rw [chunksG_len]
    omega
theorem chunksOf_ne (l : List UInt8) : chunksOf l ≠ [] := by
  intro h
  have := chunksOf_len l
  rw [h] at this
  simp at this
  omega

/-- A disk whose power is on, with no cut to come. -/
structure CalmD (D : Dk) : Prop where
  ok : OkD D
  left : D.left = -1
  dark : D.dark = false
/-- D' is D a number of raw writes later, with other files. -/
structure Later (D D' : Dk) (k : Nat) : Prop where
  calm : CalmD D'
  cap : D'.cap = D.cap
  done : D'.done = D.done + k
theorem spend_calm {D : Dk} (h : CalmD D) (l' : List Fil) : spendD D l' = (0, { D with done := D.done + 1, l := l' }) := by
  unfold spendD
  rw [h.left]
  rfl
theorem CalmD.free {D : Dk} (h : CalmD D) : frD D = D.cap - costs D.l := h.ok.free
/-- An append goes through. -/
theorem app_ok {D : Dk} (h : CalmD D) {s : ByteArray} (hs : nameB s = true) {c : List UInt8} (hc : c.length ≤ 64) (hr : appMore D s c ≤ frD D) :
    appD D s c = (0, { D with done := D.done + 1, l := putF D.l s ((lookF D.l s).getD [] ++ c) }) ∧ Later D { D with done := D.done + 1, l := putF D.l s ((lookF D.l s).getD [] ++ c) } 1 := by
  have e : appD D s c = (0, { D with done := D.done + 1, l := putF D.l s ((lookF D.l s).getD [] ++ c) }) := by
    unfold appD
    rw [if_neg (by rw [hs]; simp; omega), if_neg (by rw [h.dark]; decide)]
    unfold roomD
    rw [if_neg (by omega), spend_calm h]
  refine ⟨e, ⟨?_, h.left, h.dark⟩, rfl, rfl⟩
  have := h.ok.app s c
  rw [e] at this
  exact this
/-- What a chunk more, or the first one, costs. -/
theorem appMore_some {D : Dk} {s : ByteArray} {c b : List UInt8} (h : lookF D.l s = some b) : appMore D s c = c.length := by unfold appMore; rw [h]; simp
theorem appMore_none {D : Dk} {s : ByteArray} {c : List UInt8} (h : lookF D.l s = none) : appMore D s c = c.length + (16 + (s.size : Int)) := by unfold appMore; rw [h]
/-- Chunks go through, behind what is there. -/
theorem all_ok {D : Dk} (h : CalmD D) {s : ByteArray} (hs : nameB s = true) {acc : List UInt8} (hl : lookF D.l s = some acc) (cs : List (List UInt8)) (hc : ∀ c ∈ cs, c.length ≤ 64) (hr : (cs.flatten.length : Int) ≤ frD D) :
    ∃ D', appAll D s cs = (0, D') ∧ Later D D' cs.length ∧ lookF D'.l s = some (acc ++ cs.flatten) ∧ (∀ x, x ≠ s → lookF D'.l x = lookF D.l x) ∧ costs D'.l = costs D.l + cs.flatten.length := by
  induction cs generalizing D acc with
  | nil => exact ⟨D, rfl, ⟨h, rfl, rfl⟩, by simpa using hl, fun _ _ => rfl, by simp⟩
  | cons c r ih =>
    rw [List.flatten_cons, List.length_append] at hr
    obtain ⟨e, hL⟩ := app_ok h hs (hc c (List.mem_cons_self ..)) (by rw [appMore_some hl]; omega)
    rw [hl, Option.getD_some] at e hL
    have hord := h.ok.ord
    have hl' : lookF (putF D.l s (acc ++ c)) s = some (acc ++ c) := by rw [look_put hord, if_pos rfl]
    have hcs : costs (putF D.l s (acc ++ c)) = costs D.l + c.length := by
      rw [costs_putF hord, hl]
      simp only [List.length_append]
      omega
    obtain ⟨D', e', hL', h1, h2, h3⟩ := ih (D := { D with done := D.done + 1, l := putF D.l s (acc ++ c) }) hL.calm hl' (fun d hd => hc d (List.mem_cons_of_mem _ hd)) (by
      rw [hL.calm.free]
      rw [h.free] at hr
      simp only
      rw [hcs]
      omega)
    refine ⟨D', ?_, ⟨hL'.calm, hL'.cap, ?_⟩, ?_, ?_, ?_⟩
    · rw [appAll_cons, e, if_neg (by simp)]
      exact e'
    · rw [hL'.done, List.length_cons]
      simp only
      omega
    · rw [h1, List.flatten_cons, List.append_assoc]
    · intro x hx
      rw [h2 x hx]
      show lookF (putF D.l s (acc ++ c)) x = _
      rw [look_put hord, if_neg hx]
    · rw [h3, List.flatten_cons, List.length_append]
      show costs (putF D.l s (acc ++ c)) + _ = _
      rw [hcs]
      omega
/-- .. where nothing is there. -/
theorem all_new {D : Dk} (h : CalmD D) {s : ByteArray} (hs : nameB s = true) (hl : lookF D.l s = none) (cs : List (List UInt8)) (hne : cs ≠ []) (hc : ∀ c ∈ cs, c.length ≤ 64) (hr : 16 + (s.size : Int) + cs.flatten.length ≤ frD D) :
    ∃ D', appAll D s cs = (0, D') ∧ Later D D' cs.length ∧ lookF D'.l s = some cs.flatten ∧ (∀ x, x ≠ s → lookF D'.l x = lookF D.l x) ∧ costs D'.l = costs D.l + (16 + (s.size : Int) + cs.flatten.length) := by
  cases cs with
  | nil => exact absurd rfl hne
  | cons c r =>
    rw [List.flatten_cons, List.length_append] at hr
    obtain ⟨e, hL⟩ := app_ok h hs (hc c (List.mem_cons_self ..)) (by rw [appMore_none hl]; omega)
    rw [hl, Option.getD_none, List.nil_append] at e hL
    have hord := h.ok.ord
    have hl' : lookF (putF D.l s c) s = some c := by rw [look_put hord, if_pos rfl]
    have hcs : costs (putF D.l s c) = costs D.l + (16 + (s.size : Int) + c.length) := by rw [costs_putF hord, hl]
    obtain ⟨D', e', hL', h1, h2, h3⟩ := all_ok (D := { D with done := D.done + 1, l := putF D.l s c }) hL.calm hs hl' r (fun d hd => hc d (List.mem_cons_of_mem _ hd)) (by
      rw [hL.calm.free]
      rw [h.free] at hr
      simp only
      rw [hcs]
      omega)
    refine ⟨D', ?_, ⟨hL'.calm, hL'.cap, ?_⟩, ?_, ?_, ?_⟩
    · rw [appAll_cons, e, if_neg (by simp)]
      exact e'
    · rw [hL'.done, List.length_cons]
      simp only
      omega
    · rw [h1, List.flatten_cons]
    · intro x hx
      rw [h2 x hx]
      show lookF (putF D.l s c) x = _
      rw [look_put hord, if_neg hx]
    · rw [h3, List.flatten_cons, List.length_append]
      show costs (putF D.l s c) + _ = _
      rw [hcs]
      omega
theorem sync_ok {D : Dk} (h : CalmD D) {s : ByteArray} (hs : nameB s = true) {b : List UInt8} (hl : lookF D.l s = some b) : syncD D s = (0, { D with done := D.done + 1 }) := by
  unfold syncD touchD
  rw [if_neg (by rw [if_neg (by rw [hs]; decide), if_neg (by rw [h.dark]; decide), hl]; simp), spend_calm h]
theorem ren_ok {D : Dk} (h : CalmD D) {s n : ByteArray} (hs : nameB s = true) (hn : nameB n = true) (hsz : n.size ≤ s.size) {b : List UInt8} (hl : lookF D.l s = some b) :
    renD D s n = (0, { D with done := D.done + 1, l := putF (dropF D.l s) n b }) := by
  unfold renD touchD
  rw [if_neg (by rw [hs, hn]; simp), if_neg (by rw [if_neg (by rw [hs]; decide), if_neg (by rw [h.dark]; decide), hl]; simp), hl, Option.getD_some]
  unfold roomD
  rw [if_neg (by unfold renNeed; cases lookF D.l n <;> simp only <;> omega), spend_calm h]
/-- A name whose shadow may be. -/
theorem shd_name {n : ByteArray} (h : nameB (shd n) = true) (h0 : n.size ≠ 0) : nameB n = true := by
  unfold nameB at *
  simp only [Bool.and_eq_true, decide_eq_true_eq, Bool.not_eq_true'] at *
  have h1 := shd_size n
  refine ⟨⟨by omega, by omega⟩, ?_⟩
  have h2 := h.2
  unfold shd at h2
  rw [ByteArray.data_append, Array.toList_append] at h2
  rw [Bool.eq_false_iff] at *
  intro h3
  exact h2 (by rw [List.contains_iff_mem] at *; exact List.mem_append.2 (.inl h3))
theorem shd_ne (n : ByteArray) : n ≠ shd n := fun e => by
  have := shd_size n
  rw [← e] at this
  omega
/-- What a save leaves where there is room. -/
theorem laid_ok {D : Dk} (h : CalmD D) {n : ByteArray} {b : List UInt8} (hs : nameB (shd n) = true) (h0 : n.size ≠ 0) (hl : lookF D.l (shd n) = none) (hr : 16 + ((n.size : Int) + 1) + b.length ≤ frD D) :
    ∃ D', laidD D n b = (0, D') ∧ Later D D' ((chunksOf b).length + 2) ∧ lookF D'.l n = some b ∧ lookF D'.l (shd n) = none ∧ (∀ x, x ≠ n → x ≠ shd n → lookF D'.l x = lookF D.l x) := by
  have hn := shd_name hs h0
  have hsz := shd_size n
  have hfl := chunksOf_flat b
  obtain ⟨D1, e1, L1, l1, o1, c1⟩ := all_new h hs hl (chunksOf b) (chunksOf_ne b) (chunksOf_small b) (by rw [hfl, hsz]; omega)
  rw [hfl] at l1 c1
  have k1 := L1.calm
  have hord := k1.ok.ord
  have e2 := sync_ok k1 hs l1
  have k2 : CalmD { D1 with done := D1.done + 1 } := ⟨by have := k1.ok.sync (shd n); rw [e2] at this; exact this, k1.left, k1.dark⟩
  have e3 := ren_ok (D := { D1 with done := D1.done + 1 }) k2 hs hn (by rw [hsz]; omega) l1
  have k3 : CalmD { D1 with done := D1.done + 1 + 1, l := putF (dropF D1.l (shd n)) n b } := ⟨by have := k2.ok.ren (shd n) n; rw [e3] at this; exact this, k1.left, k1.dark⟩
  refine ⟨{ D1 with done := D1.done + 1 + 1, l := putF (dropF D1.l (shd n)) n b }, ?_, ⟨k3, L1.cap, ?_⟩, ?_, ?_, ?_⟩
  · unfold laidD
    rw [e1, if_neg (by simp)]
    unfold lstD
    rw [e2, if_neg (by simp)]
    exact e3
  · show D1.done + 1 + 1 = _
    rw [L1.done]
    omega
  · show lookF (putF (dropF D1.l (shd n)) n b) n = _
    rw [look_put (drop_order hord), if_pos rfl]
  · show lookF (putF (dropF D1.l (shd n)) n b) (shd n) = _
    rw [look_put (drop_order hord), if_neg (fun e => shd_ne n e.symm), look_drop hord, if_pos rfl]
  · intro x h1 h2
    show lookF (putF (dropF D1.l (shd n)) n b) x = _
    rw [look_put (drop_order hord), if_neg h1, look_drop hord, if_neg h2]
    exact o1 x h2
theorem rem_ok {D : Dk} (h : CalmD D) {s : ByteArray} {b : List UInt8} (hl : lookF D.l s = some b) (hs : nameB s = true) : remD D s = (0, { D with done := D.done + 1, l := dropF D.l s }) ∧ Later D { D with done := D.done + 1, l := dropF D.l s } 1 := by
  have e : remD D s = (0, { D with done := D.done + 1, l := dropF D.l s }) := by
    unfold remD touchD
    rw [if_neg (by rw [if_neg (by rw [hs]; decide), if_neg (by rw [h.dark]; decide), hl]; simp), spend_calm h]
  refine ⟨e, ⟨?_, h.left, h.dark⟩, rfl, rfl⟩
  have := h.ok.rem s
  rw [e] at this
  exact this
/-- A save on a calm disk that holds no such shadow: three ways. -/
theorem save_calm {D : Dk} (h : CalmD D) {n : ByteArray} {b : List UInt8} (hl : nameB (shd n) = true → lookF D.l (shd n) = none) :
    (saveD D n b = (1, D)) ∨ (saveD D n b = (4, D) ∧ frD D < 16 + ((n.size : Int) + 1) + b.length ∧ nameB (shd n) = true) ∨
    (¬ frD D < 16 + ((n.size : Int) + 1) + b.length ∧ nameB (shd n) = true ∧ n.size ≠ 0 ∧ ∃ D', saveD D n b = (0, D') ∧ Later D D' ((chunksOf b).length + 2) ∧ lookF D'.l n = some b ∧ lookF D'.l (shd n) = none ∧ (∀ x, x ≠ n → x ≠ shd n → lookF D'.l x = lookF D.l x)) := by
  by_cases hbad : nameB (shd n) = false ∨ n.size = 0 ∨ endsT n = true
  · exact .inl (if_pos hbad)
  · have hs : nameB (shd n) = true := by
      cases hB : nameB (shd n) with
      | true => rfl
      | false => exact absurd (.inl hB) hbad
    have h0 : n.size ≠ 0 := fun e => hbad (.inr (.inl e))
    have hln := hl hs
    have e : saveD D n b = tailD D n b := by
      unfold saveD
      rw [if_neg hbad, if_neg (by rw [h.dark]; decide), if_neg (by rw [hln]; decide)]
    rw [e]
    unfold tailD
    by_cases hr : frD D < 16 + ((n.size : Int) + 1) + b.length
    · rw [if_pos hr]
      exact .inr (.inl ⟨rfl, hr, hs⟩)
    · rw [if_neg hr]
      exact .inr (.inr ⟨hr, hs, h0, laid_ok h hs h0 hln (by omega)⟩)
end Go.Dol
namespace Go.Dol
open Go.RowKit
set_option linter.unusedVariables false
section
variable {L B : Nat} {D : Dk}
theorem put_len (l : List Fil) (n : ByteArray) (b : List UInt8) : (putF l n b).length = l.length + (match lookF l n with | none => 1 | some _ => 0) := by
  have h1 := (put_perm l n b).length_eq
  cases hl : lookF l n with
  | none =>
    rw [drop_none hl] at h1
    rw [h1]
    rfl
  | some c =>
    have h2 := (drop_perm hl).length_eq
    simp only [List.length_cons] at h1 h2
    rw [h1, h2]
    rfl
theorem drop_len (l : List Fil) (n : ByteArray) : (dropF l n).length ≤ l.length := by
  cases hl : lookF l n with
  | none => rw [drop_none hl]; omega
  | some c => have h2 := (drop_perm hl).length_eq; simp only [List.length_cons] at h2; omega
theorem OkG.spend (h : OkG L B D) {l' : List Fil} (h1 : InOrder l') (h2 : ∀ f ∈ l', nameB f.1 = true) (h3 : l'.length ≤ L) (h4 : ∀ f ∈ l', f.2.length ≤ B) : OkG L B (spendD D l').2 := by
  have a0 := h.left0
  have a1 := h.left1
  unfold spendD
  split
  · exact ⟨h.ord, h.cap0, h.cap1, by simp, by simp, h.names, h.len, h.bytes⟩
  · refine ⟨h1, h.cap0, h.cap1, ?_, ?_, h2, h3, h4⟩ <;> simp only <;> split <;> omega
theorem OkG.app (h : OkG L B D) (n : ByteArray) (b : List UInt8) (hl : lookF D.l n = none → D.l.length + 1 ≤ L) (hb : ((lookF D.l n).getD [] ++ b).length ≤ B) : OkG L B (appD D n b).2 := by
  unfold appD
  split
  · exact h
  · rename_i h1
    split
    · exact h
    · unfold roomD
      split
      · exact h
      · have hn : nameB n = true := by
          cases hB : nameB n with
          | true => rfl
          | false => exact absurd (.inr hB) h1
        refine h.spend (put_order h.ord) (names_put h.names hn _) ?_ fun f hf => ?_
        · rw [put_len]
          cases hl2 : lookF D.l n with
          | none => exact hl hl2
          | some c => exact h.len
        · rcases put_mem f hf with e | hm
          · rw [e]; exact hb
          · exact h.bytes f hm
theorem OkG.rem (h : OkG L B D) (n : ByteArray) : OkG L B (remD D n).2 := by
  unfold remD
  split
  · exact h
  · exact h.spend (drop_order h.ord) (names_drop h.names n) (Nat.le_trans (drop_len _ _) h.len) fun f hf => h.bytes f (drop_mem f hf)
theorem OkG.sync (h : OkG L B D) (n : ByteArray) : OkG L B (syncD D n).2 := by
  unfold syncD
  split
  · exact h
  · exact h.spend h.ord h.names h.len h.bytes
/-- What an append leaves: the files as they were, or the one longer. -/
theorem app_l (D : Dk) (n : ByteArray) (b : List UInt8) : (appD D n b).2.l = D.l ∨ (appD D n b).2.l = putF D.l n ((lookF D.l n).getD [] ++ b) := by
  unfold appD
  split
  · exact .inl rfl
  · split
    · exact .inl rfl
    · unfold roomD
      split
      · exact .inl rfl
      · unfold spendD
        split
        · exact .inl rfl
        · exact .inr rfl
theorem OkG.all (h : OkG L B D) {s : ByteArray} : ∀ cs : List (List UInt8), (lookF D.l s = none → D.l.length + 1 ≤ L) → ((lookF D.l s).getD [] ++ cs.flatten).length ≤ B → OkG L B (appAll D s cs).2 := by
  intro cs
  induction cs generalizing D with
  | nil => intro _ _; exact h
  | cons c r ih =>
    intro hl hb
    have hb' : ((lookF D.l s).getD [] ++ c).length ≤ B := by
      simp only [List.flatten_cons, List.length_append] at hb ⊢
      omega
    have h1 := h.app s c hl hb'
    unfold appAll
    split
    · exact h1
    · refine ih h1 ?_ ?_
      · rcases app_l D s c with e | e
        · rw [e]; exact hl
        · rw [e, look_put h.ord, if_pos rfl]
          intro h2
          cases h2
      · rcases app_l D s c with e | e
        · rw [e]
          simp only [List.flatten_cons, List.length_append] at hb ⊢
          omega
        · rw [e, look_put h.ord, if_pos rfl, Option.getD_some]
          simp only [List.flatten_cons, List.length_append] at hb ⊢
          omega
theorem chunks_len (b : List UInt8) : (chunksOf b).flatten.length ≤ b.length := by
  rw [chunksOf_flat]
  exact Nat.le_refl _
theorem OkG.pre (h : OkG L B D) {n : ByteArray} {b : List UInt8} (hs : (lookF D.l (shd n)).isSome = false) (hl : D.l.length + 1 ≤ L) (hb : b.length ≤ B) {pre r : List (List UInt8)} (hc : chunksOf b = pre ++ r) : OkG L B (appAll D (shd n) pre).2 := by
  have h1 := chunks_len b
  rw [hc, List.flatten_append, List.length_append] at h1
  have hs' : lookF D.l (shd n) = none := by cases hx : lookF D.l (shd n) with | none => rfl | some c => rw [hx] at hs; cases hs
  exact h.all (s := shd n) pre (fun _ => hl) (by rw [hs', Option.getD_none, List.nil_append]; omega)
/-- A file that was taken away is gone. -/
theorem rem_gone (h : InOrder D.l) {n : ByteArray} (hz : (remD D n).1 = 0) : lookF (remD D n).2.l n = none ∧ (remD D n).2.l = dropF D.l n := by
  unfold remD at hz ⊢
  split
  · rename_i h1
    rw [if_pos h1] at hz
    exact absurd hz h1
  · rename_i h1
    rw [if_neg h1] at hz
    unfold spendD at hz ⊢
    split
    · rename_i h2
      rw [if_pos h2] at hz
      cases hz
    · exact ⟨by show lookF (dropF D.l n) n = none; rw [look_drop h, if_pos rfl], rfl⟩
end
theorem OkD.lenW {D : Dk} (h : OkD D) : D.l.length ≤ 68719476736 := by
  have h1 := costs_len D.l
  have h2 := h.room
  have h3 := h.cap1
  omega
end Go.Dol
namespace Go.Dol
open Go.RowKit
set_option linter.unusedVariables false
/-- What an operation of a save leaves: other files as they were; done, or refused. -/
structure SvOut (D : Dk) (n : ByteArray) (P : Dk → Prop) (r : Int × Dk) : Prop where
  ord : InOrder r.2.l
  oth : ∀ x, x ≠ n → x ≠ shd n → lookF r.2.l x = lookF D.l x
  way : (r.1 = 0 ∧ P r.2 ∧ r.2.dark = false) ∨ ((r.1 = 4 ∧ r.2.dark = false ∨ r.1 = 5 ∧ r.2.dark = true) ∧ lookF r.2.l n = lookF D.l n)
  calm : D.left = -1 → r.1 ≠ 5 ∧ r.2.left = -1
theorem SvOut.same {D : Dk} (ho : InOrder D.l) (hd : D.dark = false) (n : ByteArray) (P : Dk → Prop) : SvOut D n P (4, D) :=
  ⟨ho, fun _ _ _ => rfl, .inr ⟨.inl ⟨rfl, hd⟩, rfl⟩, fun h => ⟨by simp, h⟩⟩
theorem SvOut.spend {D : Dk} (ho : InOrder D.l) (hd : D.dark = false) {l' : List Fil} (ho' : InOrder l') {n : ByteArray} (hoth : ∀ x, x ≠ n → x ≠ shd n → lookF l' x = lookF D.l x) {P : Dk → Prop} (hP : ∀ E : Dk, E.l = l' → P E) : SvOut D n P (spendD D l') := by
  unfold spendD
  split
  · rename_i h0
    exact ⟨ho, fun _ _ _ => rfl, .inr ⟨.inr ⟨rfl, rfl⟩, rfl⟩, fun h => by rw [h] at h0; cases h0⟩
  · refine ⟨ho', hoth, .inl ⟨rfl, hP _ rfl, hd⟩, fun h => ⟨by simp, ?_⟩⟩
    show (if 0 < D.left then D.left - 1 else D.left) = -1
    rw [h]
    rfl
theorem SvOut.room {D : Dk} (ho : InOrder D.l) (hd : D.dark = false) {l' : List Fil} (ho' : InOrder l') {n : ByteArray} (hoth : ∀ x, x ≠ n → x ≠ shd n → lookF l' x = lookF D.l x) {P : Dk → Prop} (hP : ∀ E : Dk, E.l = l' → P E) (more : Int) : SvOut D n P (roomD D more l') := by
  unfold roomD
  split
  · exact SvOut.same ho hd n P
  · exact SvOut.spend ho hd ho' hoth hP
/-- One behind the other. -/
theorem SvOut.bind {D : Dk} {n : ByteArray} {P Q : Dk → Prop} {r1 r2 : Int × Dk} (h : SvOut D n P r1) (hP : ∀ E, P E → lookF E.l n = lookF D.l n) (h2 : r1.1 = 0 → P r1.2 → r1.2.dark = false → SvOut r1.2 n Q r2) : SvOut D n Q (if r1.1 ≠ 0 then r1 else r2) := by
  split
  · rename_i h0
    refine ⟨h.ord, h.oth, ?_, h.calm⟩
    rcases h.way with ⟨e, _⟩ | w
    · exact absurd e h0
    · exact .inr w
  · rename_i h0
    have e0 : r1.1 = 0 := Decidable.not_not.1 h0
    rcases h.way with ⟨_, hp, hd⟩ | ⟨⟨e, _⟩ | ⟨e, _⟩, _⟩
    · have q := h2 e0 hp hd
      refine ⟨q.ord, fun x a b => by rw [q.oth x a b, h.oth x a b], ?_, fun hl => q.calm (h.calm hl).2⟩
      rcases q.way with w | ⟨w, k⟩
      · exact .inl w
      · exact .inr ⟨w, by rw [k, hP _ hp]⟩
    · rw [e] at e0; cases e0
    · rw [e] at e0; cases e0
theorem app_out {D : Dk} (ho : InOrder D.l) (hd : D.dark = false) {n : ByteArray} (hs : nameB (shd n) = true) {c acc : List UInt8} (hc : c.length ≤ 64) (ha : (lookF D.l (shd n)).getD [] = acc) :
    SvOut D n (fun E => lookF E.l (shd n) = some (acc ++ c) ∧ lookF E.l n = lookF D.l n) (appD D (shd n) c) := by
  unfold appD
  rw [if_neg (by rw [hs]; simp; omega), if_neg (by rw [hd]; decide), ha]
  refine SvOut.room ho hd (put_order ho) (fun x _ h2 => by rw [look_put ho, if_neg h2]) (fun E hE => ?_) _
  rw [hE, look_put ho, if_pos rfl, look_put ho, if_neg (shd_ne n)]
  exact ⟨rfl, rfl⟩
theorem all_out {n : ByteArray} (hs : nameB (shd n) = true) (cs : List (List UInt8)) (hc : ∀ c ∈ cs, c.length ≤ 64) : ∀ (D : Dk) (acc : List UInt8), InOrder D.l → D.dark = false → (lookF D.l (shd n)).getD [] = acc →
    (cs = [] → lookF D.l (shd n) = some acc) → SvOut D n (fun E => lookF E.l (shd n) = some (acc ++ cs.flatten) ∧ lookF E.l n = lookF D.l n) (appAll D (shd n) cs) := by
  induction cs with
  | nil =>
    intro D acc ho hd ha hn
    exact ⟨ho, fun _ _ _ => rfl, .inl ⟨rfl, ⟨by rw [List.flatten_nil, List.append_nil]; exact hn rfl, rfl⟩, hd⟩, fun h => ⟨by simp [appAll], h⟩⟩
  | cons c r ih =>
    intro D acc ho hd ha _
    rw [appAll_cons]
    have h1 := app_out ho hd hs (hc c (List.mem_cons_self ..)) ha
    refine h1.bind (fun E hE => hE.2) fun h0 hp hd1 => ?_
    have h2 := ih (fun d hd => hc d (List.mem_cons_of_mem _ hd)) (appD D (shd n) c).2 (acc ++ c) h1.ord hd1 (by rw [hp.1]; rfl) fun _ => hp.1
    refine ⟨h2.ord, h2.oth, ?_, h2.calm⟩
    rcases h2.way with ⟨a1, ⟨a2, a3⟩, a4⟩ | w
    · exact .inl ⟨a1, ⟨by rw [a2, List.flatten_cons, List.append_assoc], by rw [a3, hp.2]⟩, a4⟩
    · exact .inr w
theorem touch_ok {D : Dk} {s : ByteArray} (hs : nameB s = true) (hd : D.dark = false) {b : List UInt8} (hl : lookF D.l s = some b) : touchD D s = 0 := by
  unfold touchD
  rw [if_neg (by rw [hs]; decide), if_neg (by rw [hd]; decide), hl]
  rfl
theorem last_out {D : Dk} (ho : InOrder D.l) (hd : D.dark = false) {n : ByteArray} (hs : nameB (shd n) = true) (hn : nameB n = true) {b : List UInt8} (hl : lookF D.l (shd n) = some b) :
    SvOut D n (fun E => lookF E.l n = some b) (lstD D n) := by
  unfold lstD
  have h1 : SvOut D n (fun E => E.l = D.l) (syncD D (shd n)) := by
    unfold syncD
    rw [if_neg (by rw [touch_ok hs hd hl]; simp)]
    exact SvOut.spend ho hd ho (fun _ _ _ => rfl) fun E hE => hE
  refine h1.bind (fun E hE => by rw [hE]) fun h0 hp hd1 => ?_
  have hp' : (syncD D (shd n)).2.l = D.l := hp
  have hl1 : lookF (syncD D (shd n)).2.l (shd n) = some b := by rw [hp']; exact hl
  have ho1 := h1.ord
  unfold renD
  rw [if_neg (by rw [hs, hn]; simp), if_neg (by rw [touch_ok hs hd1 hl1]; simp), hl1, Option.getD_some]
  refine SvOut.room ho1 hd1 (put_order (drop_order ho1)) (fun x a1 a2 => ?_) (fun E hE => ?_) _
  · rw [look_put (drop_order ho1), if_neg a1, look_drop ho1, if_neg a2]
  · rw [hE, look_put (drop_order ho1), if_pos rfl]
/-- WHOLE OR NOT THERE. -/
theorem save_out {D : Dk} (ho : InOrder D.l) (hd : D.dark = false) (n : ByteArray) (b : List UInt8) :
    ((nameB (shd n) = false ∨ n.size = 0 ∨ endsT n = true) ∧ saveD D n b = (1, D)) ∨ (nameB (shd n) = true ∧ n.size ≠ 0 ∧ endsT n = false ∧ SvOut D n (fun E => lookF E.l n = some b) (saveD D n b)) := by
  by_cases hbad : nameB (shd n) = false ∨ n.size = 0 ∨ endsT n = true
  · exact .inl ⟨hbad, if_pos hbad⟩
  · have hs : nameB (shd n) = true := by
      cases hB : nameB (shd n) with
      | true => rfl
      | false => exact absurd (.inl hB) hbad
    have h0 : n.size ≠ 0 := fun e => hbad (.inr (.inl e))
    have hE : endsT n = false := by
      cases hB : endsT n with
      | false => rfl
      | true => exact absurd (.inr (.inr hB)) hbad
    have hn := shd_name hs h0
    have tail : ∀ D1 : Dk, InOrder D1.l → D1.dark = false → lookF D1.l (shd n) = none → SvOut D1 n (fun E => lookF E.l n = some b) (tailD D1 n b) := by
      intro D1 ho1 hd1 hl1
      unfold tailD
      split
      · exact SvOut.same ho1 hd1 n _
      · unfold laidD
        refine (all_out hs (chunksOf b) (chunksOf_small b) D1 [] ho1 hd1 (by rw [hl1]; rfl) (fun e => absurd e (chunksOf_ne b))).bind (fun E hE => hE.2) fun h0 hp hd2 => ?_
        have ho2 := (all_out hs (chunksOf b) (chunksOf_small b) D1 [] ho1 hd1 (by rw [hl1]; rfl) (fun e => absurd e (chunksOf_ne b))).ord
        have hp1 := hp.1
        rw [List.nil_append, chunksOf_flat] at hp1
        exact last_out ho2 hd2 hs hn hp1
    refine .inr ⟨hs, h0, hE, ?_⟩
    unfold saveD
    rw [if_neg hbad, if_neg (by rw [hd]; decide)]
    cases hl : lookF D.l (shd n) with
    | none =>
      rw [if_neg (by decide)]
      exact tail D ho hd hl
    | some c =>
      rw [if_pos (by rfl)]
      have h1 : SvOut D n (fun E => lookF E.l (shd n) = none ∧ lookF E.l n = lookF D.l n) (remD D (shd n)) := by
        unfold remD
        rw [if_neg (by rw [touch_ok hs hd hl]; simp)]
        refine SvOut.spend ho hd (drop_order ho) (fun x _ a2 => by rw [look_drop ho, if_neg a2]) fun E hE => ?_
        rw [hE, look_drop ho, if_pos rfl, look_drop ho, if_neg (shd_ne n)]
        exact ⟨rfl, rfl⟩
      refine h1.bind (fun E hE => hE.2) fun h0 hp hd1 => ?_
      exact tail _ h1.ord hd1 hp.1
theorem look_filter {l : List Fil} (h : InOrder l) (p : ByteArray → Bool) (x : ByteArray) : lookF (l.filter fun f => p f.1) x = if p x = true then lookF l x else none := by
  have hf : InOrder (l.filter fun f => p f.1) := List.Pairwise.filter _ h
  split
  · rename_i hp
    cases hl : lookF l x with
    | none => exact (look_none hf).2 fun f hm => (look_none h).1 hl f (List.mem_filter.1 hm).1
    | some b => exact (look_some hf).2 (List.mem_filter.2 ⟨(look_some h).1 hl, hp⟩)
  · rename_i hp
    refine (look_none hf).2 fun f hm e => hp ?_
    rw [← e]
    exact (List.mem_filter.1 hm).2
theorem fil_nodup {l : List Fil} (h : InOrder l) : l.Nodup := List.Pairwise.imp (fun {a b} hab e => by rw [e] at hab; exact absurd rfl (sLt_ne hab)) h
/-- Two rows of files in order that answer alike for all names that are kept are alike, where they are kept. -/
theorem filter_same {l m : List Fil} (hl : InOrder l) (hm : InOrder m) (p : ByteArray → Bool) (h : ∀ x, p x = true → lookF l x = lookF m x) : l.filter (fun f => p f.1) = m.filter fun f => p f.1 := by
  refine order_unique (List.Pairwise.filter _ hl) (List.Pairwise.filter _ hm) ?_
  refine (List.perm_ext_iff_of_nodup ((fil_nodup hl).filter _) ((fil_nodup hm).filter _)).2 fun f => ?_
  rw [List.mem_filter, List.mem_filter]
  refine ⟨fun ⟨h1, h2⟩ => ⟨?_, h2⟩, fun ⟨h1, h2⟩ => ⟨?_, h2⟩⟩
  · have e := (look_some hl (n := f.1) (b := f.2)).2 h1
    rw [h f.1 h2] at e
    exact (look_some hm).1 e
  · have e := (look_some hm (n := f.1) (b := f.2)).2 h1
    rw [← h f.1 h2] at e
    exact (look_some hl).1 e
end Go.Dol
namespace Go.Proofs.YtecpbcmpncgokaaGreat
open Go.RowKit Go.Dol
set_option linter.unusedVariables false
/-- The last bits of a number. -/
theorem mask_rng (x : Int) (k : Nat) (m : Int) (hm : m = ((2 ^ k - 1 : Nat) : Int)) (hk : k ≤ 62) : 0 ≤ bits .and .i64 x m ∧ bits .and .i64 x m ≤ m := by
  subst hm
  have h2 : (2 : Nat) ^ k ≤ 2 ^ 62 := Nat.pow_le_pow_right (by decide) hk
  have hp : 0 < (2 : Nat) ^ k := Nat.two_pow_pos k
  have hb : (BitVec.ofInt 64 ((2 ^ k - 1 : Nat) : Int)).toNat = 2 ^ k - 1 := by
    rw [BitVec.ofInt_natCast, BitVec.toNat_ofNat]
    exact Nat.mod_eq_of_lt (by omega)
  obtain ⟨r, hr⟩ : ∃ r, r = (BitVec.ofInt 64 x &&& BitVec.ofInt 64 ((2 ^ k - 1 : Nat) : Int)).toNat := ⟨_, rfl⟩
  have ha : r ≤ 2 ^ k - 1 := by
    rw [hr, BitVec.toNat_and, hb]
    exact Nat.and_le_right
  have e : bits .and .i64 x ((2 ^ k - 1 : Nat) : Int) = IntKind.i64.wrap (r : Int) := by rw [hr]; rfl
  rw [e, IntWalk.i64_in _ (by omega)]
  omega
section
variable {w w' : World} {g m : Nat} {D : Dk}
theorem Far.tw {W W' : World} {B g m : Nat} {A : Option Addr} {l : List UInt8} (h : Far W B A l) (ht : Tw W W' g m) (hg : Other W B (some g)) (hm : Other W B (some m)) : Far W' B A l := by
  rcases Nat.eq_zero_or_pos l.length with h0 | h0
  · rw [List.eq_nil_of_length_eq_zero h0]
    exact Far.nil
  obtain ⟨b, off, e, hb, hc⟩ := h.1.at_ h0
  have hs : segBlock A = some b := by rw [e]; rfl
  have hne : ∀ k, Other W B (some k) → b ≠ k := by
    rintro k hk rfl
    obtain ⟨h1, h2⟩ := hk b rfl
    rcases h.2 h0 b hs with h3 | ⟨cur, fr, h3⟩
    · omega
    · exact h2 cur fr h3
  have hk := ht.block b hb (hne g hg) (hne m hm)
  refine ⟨⟨h.1.len, fun _ => ⟨b, off, e, Nat.lt_of_lt_of_le hb ht.size, fun j u hu => (World.cell?_of_block hk).trans (hc j u hu)⟩⟩, fun _ k hk2 => ?_⟩
  rw [hs] at hk2
  injection hk2 with hk2
  subst hk2
  rw [hk]
  exact h.2 h0 b hs
theorem Dsk.others (h : Dsk w g m D) {B : Nat} (hg : B ≤ g) (hm : B ≤ m) : Other w B (some g) ∧ Other w B (some m) := by
  obtain ⟨al, hB, hM, _⟩ := h
  refine ⟨Other.blk hB (by decide) hg, fun k hk => ?_⟩
  injection hk with hk
  subst hk
  exact ⟨hm, (Other.map hM m rfl).2⟩
/-- What is owned and is no disk lies still where a disk turns. -/
theorem own_tw {base : Nat} {T : TypeId} {size : Nat} {v : Value} {n : Nat} {xs : List Value} (hD : Dsk w g m D) (ht : Tw w w' g m) (ho : w.ownsRow base T size v n xs) (hT : T ≠ 145) : w'.ownsRow base T size v n xs := by
  refine ⟨ho.1, ?_⟩
  rcases ho.2 with hn | ⟨k, cap, cur, rfl, hb, hk, rest⟩
  · exact .inl hn
  · have hlt : k < w.heap.size := (Array.getElem?_eq_some_iff.1 hk).1
    obtain ⟨al, hB, hM, _⟩ := hD
    have h1 : k ≠ g := by
      rintro rfl
      unfold Blk at hB
      rw [hB] at hk
      injection hk with hk
      injection hk with _ hk
      exact hT hk.symm
    have h2 : k ≠ m := by
      rintro rfl
      obtain ⟨es, clock, hb2, _⟩ := hM
      rw [hb2] at hk
      cases hk
    exact .inr ⟨k, cap, cur, rfl, hb, (ht.block k hlt h1 h2).trans hk, rest⟩
end
end Go.Proofs.YtecpbcmpncgokaaGreat
namespace Go.Proofs.YtecpbcmpncgokaaGreat
open Go.RowKit Go.Maps Go.Sort Go.Shelf
set_option linter.unusedVariables false
def keysZ_ren : Go.Shelf.Ren := ⟨fun | 7 => 133 | 10 => 206 | n => n, fun | 23 => 140 | 26 => 9 | 3 => 36 | 28 => 170 | 0 => 0 | 27 => 169 | 33 => 104 | 4 => 4 | n => n, fun | n => n⟩
theorem keysZ : Go.Proofs.SlLaysZ.n7 Tryz.prog keysZ_ren := {
  mixed := by kernel_rfl
  f7 := ⟨Tryz.f133.name, by decide, Tryz.func133.trans (congrArg some (by kernel_rfl))⟩
  f10 := ⟨Tryz.f206.name, by decide, Tryz.func206.trans (congrArg some (by kernel_rfl))⟩
  t0 := Tryz.underlying0
  a0 := Tryz.isAgg0
  z0 := Tryz.sizeOf0
  v0 := Tryz.zeroValue0
  t4 := Tryz.underlying4
  a4 := Tryz.isAgg4
  z4 := Tryz.sizeOf4
  v4 := Tryz.zeroValue4
  t23 := Tryz.underlying140
  a23 := Tryz.isAgg140
  z23 := Tryz.sizeOf140
  v23 := Tryz.zeroValue140
  t26 := Tryz.underlying9
  a26 := Tryz.isAgg9
  z26 := Tryz.sizeOf9
  v26 := Tryz.zeroValue9
  t27 := Tryz.underlying169
  a27 := Tryz.isAgg169
  z27 := Tryz.sizeOf169
  v27 := Tryz.zeroValue169
  t28 := Tryz.underlying170
  a28 := Tryz.isAgg170
  z28 := Tryz.sizeOf170
  v28 := Tryz.zeroValue170
  t33 := Tryz.underlying104
  a33 := Tryz.isAgg104
  z33 := Tryz.sizeOf104
  v33 := Tryz.zeroValue104 }
def sortedZ_ren : Go.Shelf.Ren := ⟨fun | 6 => 132 | 8 => 114 | 9 => 83 | 11 => 182 | 13 => 155 | 12 => 154 | 23 => 225 | 24 => 226 | 14 => 216 | 15 => 217 | 16 => 218 | 17 => 219 | 18 => 220 | 19 => 221 | 20 => 222 | 21 => 223 | 22 => 224 | 25 => 263 | 26 => 264 | 27 => 265 | 28 => 266 | 29 => 267 | 30 => 268 | 31 => 283 | n => n, fun | 26 => 9 | 28 => 170 | 24 => 38 | 0 => 0 | 3 => 3 | 37 => 202 | 48 => 128 | 50 => 249 | 4 => 4 | 40 => 282 | 39 => 281 | 45 => 209 | 5 => 5 | 9 => 9 | 51 => 313 | 55 => 317 | 57 => 324 | 58 => 234 | 33 => 104 | n => n, fun | n => n⟩
theorem sortedZ : Go.Proofs.SlLaysZ.n6 Tryz.prog sortedZ_ren := {
  mixed := by kernel_rfl
  f6 := ⟨Tryz.f132.name, by decide, Tryz.func132.trans (congrArg some (by kernel_rfl))⟩
  f8 := ⟨Tryz.f114.name, by decide, Tryz.func114.trans (congrArg some (by kernel_rfl))⟩
  f11 := ⟨Tryz.f182.name, by decide, Tryz.func182.trans (congrArg some (by kernel_rfl))⟩
  t0 := Tryz.underlying0
  a0 := Tryz.isAgg0
  z0 := Tryz.sizeOf0
  v0 := Tryz.zeroValue0
  t24 := Tryz.underlying38
  a24 := Tryz.isAgg38
  z24 := Tryz.sizeOf38
  v24 := Tryz.zeroValue38
  t26 := Tryz.underlying9
  a26 := Tryz.isAgg9
  z26 := Tryz.sizeOf9
  v26 := Tryz.zeroValue9
  t28 := Tryz.underlying170
  a28 := Tryz.isAgg170
  z28 := Tryz.sizeOf170
  v28 := Tryz.zeroValue170
  i26 := by kernel_rfl }
def sortZ_ren : Go.Shelf.Ren := ⟨fun | 6 => 83 | 8 => 155 | 9 => 154 | 19 => 225 | 20 => 226 | 21 => 216 | 22 => 217 | 23 => 218 | 24 => 219 | 25 => 220 | 26 => 221 | 27 => 222 | 28 => 223 | 29 => 224 | 36 => 263 | 31 => 264 | 32 => 265 | 37 => 266 | 38 => 267 | 39 => 268 | 41 => 283 | n => n, fun | 27 => 38 | 29 => 9 | 3 => 3 | 32 => 202 | 26 => 38 | 0 => 0 | 44 => 128 | 46 => 249 | 4 => 4 | 36 => 282 | 35 => 281 | 41 => 209 | 5 => 5 | 9 => 9 | 53 => 313 | 57 => 317 | 63 => 324 | 64 => 234 | n => n, fun | n => n⟩
theorem sortZ : Go.Proofs.SlLaysM.n6 Tryz.prog sortZ_ren := {
  mixed := by kernel_rfl
  f6 := ⟨Tryz.f83.name, by decide, Tryz.func83.trans (congrArg some (by kernel_rfl))⟩
  f8 := Tryz.func155.trans (congrArg some (by kernel_rfl))
  f9 := ⟨Tryz.f154.name, by decide, Tryz.func154.trans (congrArg some (by kernel_rfl))⟩
  f19 := Tryz.func225.trans (congrArg some (by kernel_rfl))
  f20 := Tryz.func226.trans (congrArg some (by kernel_rfl))
  f21 := ⟨Tryz.f216.name, by decide, Tryz.func216.trans (congrArg some (by kernel_rfl))⟩
  f22 := ⟨Tryz.f217.name, by decide, Tryz.func217.trans (congrArg some (by kernel_rfl))⟩
  f23 := ⟨Tryz.f218.name, by decide, Tryz.func218.trans (congrArg some (by kernel_rfl))⟩
  f24 := ⟨Tryz.f219.name, by decide, Tryz.func219.trans (congrArg some (by kernel_rfl))⟩
  f25 := ⟨Tryz.f220.name, by decide, Tryz.func220.trans (congrArg some (by kernel_rfl))⟩
  f26 := ⟨Tryz.f221.name, by decide, Tryz.func221.trans (congrArg some (by kernel_rfl))⟩
  f27 := ⟨Tryz.f222.name, by decide, Tryz.func222.trans (congrArg some (by kernel_rfl))⟩
  f28 := ⟨Tryz.f223.name, by decide, Tryz.func223.trans (congrArg some (by kernel_rfl))⟩
  f29 := ⟨Tryz.f224.name, by decide, Tryz.func224.trans (congrArg some (by kernel_rfl))⟩
  f31 := Tryz.func264.trans (congrArg some (by kernel_rfl))
  f32 := Tryz.func265.trans (congrArg some (by kernel_rfl))
  f36 := ⟨Tryz.f263.name, by decide, Tryz.func263.trans (congrArg some (by kernel_rfl))⟩
  f37 := ⟨Tryz.f266.name, by decide, Tryz.func266.trans (congrArg some (by kernel_rfl))⟩
  f38 := ⟨Tryz.f267.name, by decide, Tryz.func267.trans (congrArg some (by kernel_rfl))⟩
  f39 := ⟨Tryz.f268.name, by decide, Tryz.func268.trans (congrArg some (by kernel_rfl))⟩
  f41 := ⟨Tryz.f283.name, by decide, Tryz.func283.trans (congrArg some (by kernel_rfl))⟩
  t0 := Tryz.underlying0
  a0 := Tryz.isAgg0
  z0 := Tryz.sizeOf0
  v0 := Tryz.zeroValue0
  t3 := Tryz.underlying3
  a3 := Tryz.isAgg3
  z3 := Tryz.sizeOf3
  v3 := Tryz.zeroValue3
  t4 := Tryz.underlying4
  a4 := Tryz.isAgg4
  z4 := Tryz.sizeOf4
  v4 := Tryz.zeroValue4
  t5 := Tryz.underlying5
  a5 := Tryz.isAgg5
  z5 := Tryz.sizeOf5
  v5 := Tryz.zeroValue5
  t9 := Tryz.underlying9
  a9 := Tryz.isAgg9
  z9 := Tryz.sizeOf9
  v9 := Tryz.zeroValue9
  t26 := Tryz.underlying38
  a26 := Tryz.isAgg38
  z26 := Tryz.sizeOf38
  v26 := Tryz.zeroValue38
  t27 := Tryz.underlying38
  a27 := Tryz.isAgg38
  z27 := Tryz.sizeOf38
  v27 := Tryz.zeroValue38
  t29 := Tryz.underlying9
  a29 := Tryz.isAgg9
  z29 := Tryz.sizeOf9
  v29 := Tryz.zeroValue9
  t32 := Tryz.underlying202
  a32 := Tryz.isAgg202
  z32 := Tryz.sizeOf202
  v32 := Tryz.zeroValue202
  t35 := Tryz.underlying281
  a35 := Tryz.isAgg281
  z35 := Tryz.sizeOf281
  v35 := Tryz.zeroValue281
  t36 := Tryz.underlying282
  a36 := Tryz.isAgg282
  z36 := Tryz.sizeOf282
  v36 := Tryz.zeroValue282
  t41 := Tryz.underlying209
  a41 := Tryz.isAgg209
  z41 := Tryz.sizeOf209
  v41 := Tryz.zeroValue209
  t44 := Tryz.underlying128
  a44 := Tryz.isAgg128
  z44 := Tryz.sizeOf128
  v44 := Tryz.zeroValue128
  t46 := Tryz.underlying249
  a46 := Tryz.isAgg249
  z46 := Tryz.sizeOf249
  v46 := Tryz.zeroValue249
  t53 := Tryz.underlying313
  a53 := Tryz.isAgg313
  z53 := Tryz.sizeOf313
  v53 := Tryz.zeroValue313
  t57 := Tryz.underlying317
  a57 := Tryz.isAgg317
  z57 := Tryz.sizeOf317
  v57 := Tryz.zeroValue317
  t63 := Tryz.underlying324
  a63 := Tryz.isAgg324
  z63 := Tryz.sizeOf324
  v63 := Tryz.zeroValue324
  t64 := Tryz.underlying234
  a64 := Tryz.isAgg234
  z64 := Tryz.sizeOf234
  v64 := Tryz.zeroValue234 }
theorem sortsZ (m : Nat) : AnyZ.SortsIn Tryz.prog sortedZ_ren Fence.wide m :=
  ⟨fun blk off cap ss W hH hblk hsz => callsIn_wide.2 (AnyM.slices_Sort_string sortZ blk off cap ss W hH hblk hsz),
   fun p cap W => callsIn_wide.2 (AnyM.slices_Sort_string_none sortZ p cap W)⟩

theorem mapsKeys (mb : Option Nat) (W : World) : CallsIn Fence.wide 5 Tryz.prog 133 #[.map mb] W fun e w' => e = .returned (.func (.func 206) #[] #[.pointer (some ⟨W.heap.size, 0, none⟩)]) ∧ w' = W.alloc (.cells #[.map mb] 140) :=
  AnyZ.keys_in keysZ Fence.wide 5 trivial rfl mb W

set_option maxHeartbeats 1000000 in
theorem sortedKeys {H : Type} (b nn : Nat) (D0 : DataW H) (R : Value → Option (DataW H × List MemPlace)) (w : World) (hown : w.ownsMap Tryz.prog 9 R b nn D0) (hmax : Maps.size D0 ≤ maxLen) (hbytes : Maps.size D0 * 16 ≤ 140737488355328) :
    CallsIn Fence.wide 5 Tryz.prog 132 #[.func (.func 206) #[] #[.pointer (some ⟨w.heap.size, 0, none⟩)]] (w.alloc (.cells #[.map (some b)] 140)) fun e w' => ∃ (v : Value) (ss : List (List UInt8)), e = .returned v ∧ ss.Perm (strKeys D0) ∧
      w'.ownsRow (w.alloc (.cells #[.map (some b)] 140)).heap.size 9 1 v ss.length ((ss.mergeSort (fun x y => decide (x ≤ y))).map encStr) ∧ (v = .slice none 0 0 ↔ ss = []) ∧ Below (w.alloc (.cells #[.map (some b)] 140)).heap.size (w.alloc (.cells #[.map (some b)] 140)) w' := by
  have hbl := hown.lt
  have hseq : SeqGives Fence.wide 2 Tryz.prog 206 #[.pointer (some ⟨w.heap.size, 0, none⟩)] encStr (fun ss => ss.Perm (strKeys D0)) (Maps.size D0) (w.alloc (.cells #[.map (some b)] 140)) :=
    AnyZ.keys_gives (ρ := keysZ_ren) { keysZ with } Fence.wide _ trivial rfl (by omega) w.heap.size b nn D0 _ (by simp) (by simp) (by
      obtain ⟨es, clock, hb, Ft, hs, hD⟩ := hown
      exact ⟨es, clock, (Below.heap_alloc _ _ b hbl).trans hb, Ft, hs, hD⟩)
  exact AnyZ.sorted_in sortedZ Fence.wide 5 trivial trivial trivial trivial rfl (by omega) (sortsZ _) (enters_of Tryz.func83 (by kernel_rfl) rfl) 206 #[.pointer (some ⟨w.heap.size, 0, none⟩)] trivial (enters_of Tryz.func206 (by kernel_rfl) rfl) _ _ hmax hbytes _ hseq

end Go.Proofs.YtecpbcmpncgokaaGreat
