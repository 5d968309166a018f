/- What a save leaves, in plain Lean. No program is in sight. Conditions: as each lemma names: a disk in good order, its power on, no cut to come. -/
import Derived.Test.YtegolgkagdlocaaSafeSpec
namespace Go.Dol
open Go.RowKit
set_option linter.unusedVariables false
theorem chunksG_flat (l : List UInt8) : (chunksG l).flatten = l := by
  induction h : l.length using Nat.strongRecOn generalizing l with
  | ind n ih =>
    rw [chunksG]
    split
    · rename_i h0
      rw [List.eq_nil_of_length_eq_zero h0]
      rfl
    · rename_i h0
      rw [List.flatten_cons, ih (l.drop 64).length (by rw [List.length_drop]; omega) _ rfl, List.take_append_drop]
theorem chunksOf_flat (l : List UInt8) : (chunksOf l).flatten = l := by
  unfold chunksOf
  split
  · rename_i h0
    rw [List.eq_nil_of_length_eq_zero h0]
    rfl
  · exact chunksG_flat l
theorem chunksG_small (l : List UInt8) : ∀ c ∈ chunksG l, c.length ≤ 64 := by
  induction h : l.length using Nat.strongRecOn generalizing l with
  | ind n ih =>
    intro c hc
    rw [chunksG] at hc
    split at hc
    · cases hc
    · rcases List.mem_cons.1 hc with rfl | hc
      · rw [List.length_take]; omega
      · exact ih (l.drop 64).length (by rw [List.length_drop]; omega) _ rfl c hc
theorem chunksOf_small (l : List UInt8) : ∀ c ∈ chunksOf l, c.length ≤ 64 := by
  unfold chunksOf
  split
  · intro c hc
    rw [List.mem_singleton.1 hc]
    simp
  · exact chunksG_small l
theorem chunksG_len (l : List UInt8) : (chunksG l).length = (l.length + 63) / 64 := by
  induction h : l.length using Nat.strongRecOn generalizing l with
  | ind n ih =>
    rw [chunksG]
    split
    · simp; omega
    · rw [List.length_cons, ih (l.drop 64).length (by rw [List.length_drop]; omega) _ rfl, List.length_drop]
      omega
theorem chunksOf_len (l : List UInt8) : (chunksOf l).length = max 1 ((l.length + 63) / 64) := by
  unfold chunksOf
  split
  · rename_i h0
    rw [h0]
    rfl
  · rw [chunksG_len]
    omega
theorem chunksOf_ne (l : List UInt8) : chunksOf l ≠ [] := by
  intro h
  have := chunksOf_len l
  rw [h] at this
  simp at this
  omega

/-- A disk whose power is on, with no cut to come. -/
structure CalmD (D : Dk) : Prop where
  ok : OkD D
  left : D.left = -1
  dark : D.dark = false
/-- D' is D a number of raw writes later, with other files. -/
structure Later (D D' : Dk) (k : Nat) : Prop where
  calm : CalmD D'
  cap : D'.cap = D.cap
  done : D'.done = D.done + k
theorem spend_calm {D : Dk} (h : CalmD D) (l' : List Fil) : spendD D l' = (0, { D with done := D.done + 1, l := l' }) := by
  unfold spendD
  rw [h.left]
  rfl
theorem CalmD.free {D : Dk} (h : CalmD D) : frD D = D.cap - costs D.l := h.ok.free
theorem CalmD.nonneg {D : Dk} (h : CalmD D) : 0 ≤ frD D := by rw [h.free]; have := h.ok.room; omega
/-- An append goes through. -/
theorem app_ok {D : Dk} (h : CalmD D) {s : ByteArray} (hs : nameB s = true) {c : List UInt8} (hc : c.length ≤ 64) (hr : appMore D s c ≤ frD D) :
    appD D s c = (0, { D with done := D.done + 1, l := putF D.l s ((lookF D.l s).getD [] ++ c) }) ∧ Later D { D with done := D.done + 1, l := putF D.l s ((lookF D.l s).getD [] ++ c) } 1 := by
  have e : appD D s c = (0, { D with done := D.done + 1, l := putF D.l s ((lookF D.l s).getD [] ++ c) }) := by
    unfold appD
    rw [if_neg (by rw [hs]; simp; omega), if_neg (by rw [h.dark]; decide)]
    unfold roomD
    rw [if_neg (by omega), spend_calm h]
  refine ⟨e, ⟨?_, h.left, h.dark⟩, rfl, rfl⟩
  have := h.ok.app s c
  rw [e] at this
  exact this
/-- What a chunk more, or the first one, costs. -/
theorem appMore_some {D : Dk} {s : ByteArray} {c b : List UInt8} (h : lookF D.l s = some b) : appMore D s c = c.length := by unfold appMore; rw [h]; simp
theorem appMore_none {D : Dk} {s : ByteArray} {c : List UInt8} (h : lookF D.l s = none) : appMore D s c = c.length + (16 + (s.size : Int)) := by unfold appMore; rw [h]
/-- Chunks go through, behind what is there. -/
theorem all_ok {D : Dk} (h : CalmD D) {s : ByteArray} (hs : nameB s = true) {acc : List UInt8} (hl : lookF D.l s = some acc) (cs : List (List UInt8)) (hc : ∀ c ∈ cs, c.length ≤ 64) (hr : (cs.flatten.length : Int) ≤ frD D) :
    ∃ D', appAll D s cs = (0, D') ∧ Later D D' cs.length ∧ lookF D'.l s = some (acc ++ cs.flatten) ∧ (∀ x, x ≠ s → lookF D'.l x = lookF D.l x) ∧ costs D'.l = costs D.l + cs.flatten.length := by
  induction cs generalizing D acc with
  | nil => exact ⟨D, rfl, ⟨h, rfl, rfl⟩, by simpa using hl, fun _ _ => rfl, by simp⟩
  | cons c r ih =>
    rw [List.flatten_cons, List.length_append] at hr
    obtain ⟨e, hL⟩ := app_ok h hs (hc c (List.mem_cons_self ..)) (by rw [appMore_some hl]; omega)
    rw [hl, Option.getD_some] at e hL
    have hord := h.ok.ord
    have hl' : lookF (putF D.l s (acc ++ c)) s = some (acc ++ c) := by rw [look_put hord, if_pos rfl]
    have hcs : costs (putF D.l s (acc ++ c)) = costs D.l + c.length := by
      rw [costs_putF hord, hl]
      simp only [List.length_append]
      omega
    obtain ⟨D', e', hL', h1, h2, h3⟩ := ih (D := { D with done := D.done + 1, l := putF D.l s (acc ++ c) }) hL.calm hl' (fun d hd => hc d (List.mem_cons_of_mem _ hd)) (by
      rw [hL.calm.free]
      rw [h.free] at hr
      simp only
      rw [hcs]
      omega)
    refine ⟨D', ?_, ⟨hL'.calm, hL'.cap, ?_⟩, ?_, ?_, ?_⟩
    · rw [appAll_cons, e, if_neg (by simp)]
      exact e'
    · rw [hL'.done, List.length_cons]
      simp only
      omega
    · rw [h1, List.flatten_cons, List.append_assoc]
    · intro x hx
      rw [h2 x hx]
      show lookF (putF D.l s (acc ++ c)) x = _
      rw [look_put hord, if_neg hx]
    · rw [h3, List.flatten_cons, List.length_append]
      show costs (putF D.l s (acc ++ c)) + _ = _
      rw [hcs]
      omega
/-- .. where nothing is there. -/
theorem all_new {D : Dk} (h : CalmD D) {s : ByteArray} (hs : nameB s = true) (hl : lookF D.l s = none) (cs : List (List UInt8)) (hne : cs ≠ []) (hc : ∀ c ∈ cs, c.length ≤ 64) (hr : 16 + (s.size : Int) + cs.flatten.length ≤ frD D) :
    ∃ D', appAll D s cs = (0, D') ∧ Later D D' cs.length ∧ lookF D'.l s = some cs.flatten ∧ (∀ x, x ≠ s → lookF D'.l x = lookF D.l x) ∧ costs D'.l = costs D.l + (16 + (s.size : Int) + cs.flatten.length) := by
  cases cs with
  | nil => exact absurd rfl hne
  | cons c r =>
    rw [List.flatten_cons, List.length_append] at hr
    obtain ⟨e, hL⟩ := app_ok h hs (hc c (List.mem_cons_self ..)) (by rw [appMore_none hl]; omega)
    rw [hl, Option.getD_none, List.nil_append] at e hL
    have hord := h.ok.ord
    have hl' : lookF (putF D.l s c) s = some c := by rw [look_put hord, if_pos rfl]
    have hcs : costs (putF D.l s c) = costs D.l + (16 + (s.size : Int) + c.length) := by rw [costs_putF hord, hl]
    obtain ⟨D', e', hL', h1, h2, h3⟩ := all_ok (D := { D with done := D.done + 1, l := putF D.l s c }) hL.calm hs hl' r (fun d hd => hc d (List.mem_cons_of_mem _ hd)) (by
      rw [hL.calm.free]
      rw [h.free] at hr
      simp only
      rw [hcs]
      omega)
    refine ⟨D', ?_, ⟨hL'.calm, hL'.cap, ?_⟩, ?_, ?_, ?_⟩
    · rw [appAll_cons, e, if_neg (by simp)]
      exact e'
    · rw [hL'.done, List.length_cons]
      simp only
      omega
    · rw [h1, List.flatten_cons]
    · intro x hx
      rw [h2 x hx]
      show lookF (putF D.l s c) x = _
      rw [look_put hord, if_neg hx]
    · rw [h3, List.flatten_cons, List.length_append]
      show costs (putF D.l s c) + _ = _
      rw [hcs]
      omega
theorem sync_ok {D : Dk} (h : CalmD D) {s : ByteArray} (hs : nameB s = true) {b : List UInt8} (hl : lookF D.l s = some b) : syncD D s = (0, { D with done := D.done + 1 }) := by
  unfold syncD touchD
  rw [if_neg (by rw [if_neg (by rw [hs]; decide), if_neg (by rw [h.dark]; decide), hl]; simp), spend_calm h]
theorem ren_ok {D : Dk} (h : CalmD D) {s n : ByteArray} (hs : nameB s = true) (hn : nameB n = true) (hsz : n.size ≤ s.size) {b : List UInt8} (hl : lookF D.l s = some b) :
    renD D s n = (0, { D with done := D.done + 1, l := putF (dropF D.l s) n b }) := by
  unfold renD touchD
  rw [if_neg (by rw [hs, hn]; simp), if_neg (by rw [if_neg (by rw [hs]; decide), if_neg (by rw [h.dark]; decide), hl]; simp), hl, Option.getD_some]
  unfold roomD
  rw [if_neg (by unfold renNeed; cases lookF D.l n <;> simp only <;> omega), spend_calm h]
theorem nameB_le {n : ByteArray} (h : nameB n = true) : n.size ≤ 200 := by
  unfold nameB at h
  simp only [Bool.and_eq_true, decide_eq_true_eq] at h
  exact h.1.2
/-- A name whose shadow may be. -/
theorem shd_name {n : ByteArray} (h : nameB (shd n) = true) (h0 : n.size ≠ 0) : nameB n = true := by
  unfold nameB at *
  simp only [Bool.and_eq_true, decide_eq_true_eq, Bool.not_eq_true'] at *
  have h1 := shd_size n
  refine ⟨⟨by omega, by omega⟩, ?_⟩
  have h2 := h.2
  unfold shd at h2
  rw [ByteArray.data_append, Array.toList_append] at h2
  rw [Bool.eq_false_iff] at *
  intro h3
  exact h2 (by rw [List.contains_iff_mem] at *; exact List.mem_append.2 (.inl h3))
theorem shd_ne (n : ByteArray) : n ≠ shd n := fun e => by
  have := shd_size n
  rw [← e] at this
  omega
/-- What a save leaves where there is room. -/
theorem laid_ok {D : Dk} (h : CalmD D) {n : ByteArray} {b : List UInt8} (hs : nameB (shd n) = true) (h0 : n.size ≠ 0) (hl : lookF D.l (shd n) = none) (hr : 16 + ((n.size : Int) + 1) + b.length ≤ frD D) :
    ∃ D', laidD D n b = (0, D') ∧ Later D D' ((chunksOf b).length + 2) ∧ lookF D'.l n = some b ∧ lookF D'.l (shd n) = none ∧ (∀ x, x ≠ n → x ≠ shd n → lookF D'.l x = lookF D.l x) := by
  have hn := shd_name hs h0
  have hsz := shd_size n
  have hfl := chunksOf_flat b
  obtain ⟨D1, e1, L1, l1, o1, c1⟩ := all_new h hs hl (chunksOf b) (chunksOf_ne b) (chunksOf_small b) (by rw [hfl, hsz]; omega)
  rw [hfl] at l1 c1
  have k1 := L1.calm
  have hord := k1.ok.ord
  have e2 := sync_ok k1 hs l1
  have k2 : CalmD { D1 with done := D1.done + 1 } := ⟨by have := k1.ok.sync (shd n); rw [e2] at this; exact this, k1.left, k1.dark⟩
  have e3 := ren_ok (D := { D1 with done := D1.done + 1 }) k2 hs hn (by rw [hsz]; omega) l1
  have k3 : CalmD { D1 with done := D1.done + 1 + 1, l := putF (dropF D1.l (shd n)) n b } := ⟨by have := k2.ok.ren (shd n) n; rw [e3] at this; exact this, k1.left, k1.dark⟩
  refine ⟨{ D1 with done := D1.done + 1 + 1, l := putF (dropF D1.l (shd n)) n b }, ?_, ⟨k3, L1.cap, ?_⟩, ?_, ?_, ?_⟩
  · unfold laidD
    rw [e1, if_neg (by simp)]
    unfold lastD
    rw [e2, if_neg (by simp)]
    exact e3
  · show D1.done + 1 + 1 = _
    rw [L1.done]
    omega
  · show lookF (putF (dropF D1.l (shd n)) n b) n = _
    rw [look_put (drop_order hord), if_pos rfl]
  · show lookF (putF (dropF D1.l (shd n)) n b) (shd n) = _
    rw [look_put (drop_order hord), if_neg (fun e => shd_ne n e.symm), look_drop hord, if_pos rfl]
  · intro x h1 h2
    show lookF (putF (dropF D1.l (shd n)) n b) x = _
    rw [look_put (drop_order hord), if_neg h1, look_drop hord, if_neg h2]
    exact o1 x h2
theorem rem_ok {D : Dk} (h : CalmD D) {s : ByteArray} {b : List UInt8} (hl : lookF D.l s = some b) (hs : nameB s = true) : remD D s = (0, { D with done := D.done + 1, l := dropF D.l s }) ∧ Later D { D with done := D.done + 1, l := dropF D.l s } 1 := by
  have e : remD D s = (0, { D with done := D.done + 1, l := dropF D.l s }) := by
    unfold remD touchD
    rw [if_neg (by rw [if_neg (by rw [hs]; decide), if_neg (by rw [h.dark]; decide), hl]; simp), spend_calm h]
  refine ⟨e, ⟨?_, h.left, h.dark⟩, rfl, rfl⟩
  have := h.ok.rem s
  rw [e] at this
  exact this
/-- Behind a removal, whatever it answers, the disk is calm, and no such file is there, if there may be one. -/
theorem rem_calm {D : Dk} (h : CalmD D) (s : ByteArray) : CalmD (remD D s).2 ∧ (nameB s = true → lookF (remD D s).2.l s = none) ∧ (∀ x, x ≠ s → lookF (remD D s).2.l x = lookF D.l x) := by
  cases hB : nameB s with
  | false =>
    have e : remD D s = (1, D) := by unfold remD touchD; rw [if_pos (by rw [if_pos hB]; simp), if_pos hB]
    rw [e]
    exact ⟨h, fun h => by (cases h), fun _ _ => rfl⟩
  | true =>
    cases hl : lookF D.l s with
    | none =>
      have e : remD D s = (3, D) := by
        unfold remD touchD
        rw [if_pos (by rw [if_neg (by rw [hB]; decide), if_neg (by rw [h.dark]; decide), hl]; simp), if_neg (by rw [hB]; decide), if_neg (by rw [h.dark]; decide), hl]
        rfl
      rw [e]
      exact ⟨h, fun _ => hl, fun _ _ => rfl⟩
    | some b =>
      obtain ⟨e, L⟩ := rem_ok h hl hB
      rw [e]
      refine ⟨L.calm, fun _ => ?_, fun x hx => ?_⟩
      · show lookF (dropF D.l s) s = none
        rw [look_drop h.ok.ord, if_pos rfl]
      · show lookF (dropF D.l s) x = _
        rw [look_drop h.ok.ord, if_neg hx]
/-- A save on a calm disk that holds no such shadow: three ways. -/
theorem save_calm {D : Dk} (h : CalmD D) {n : ByteArray} {b : List UInt8} (hl : nameB (shd n) = true → lookF D.l (shd n) = none) :
    (saveD D n b = (1, D)) ∨ (saveD D n b = (4, D) ∧ frD D < 16 + ((n.size : Int) + 1) + b.length ∧ nameB (shd n) = true) ∨
    (¬ frD D < 16 + ((n.size : Int) + 1) + b.length ∧ nameB (shd n) = true ∧ n.size ≠ 0 ∧ ∃ D', saveD D n b = (0, D') ∧ Later D D' ((chunksOf b).length + 2) ∧ lookF D'.l n = some b ∧ lookF D'.l (shd n) = none ∧ (∀ x, x ≠ n → x ≠ shd n → lookF D'.l x = lookF D.l x)) := by
  by_cases hbad : nameB (shd n) = false ∨ n.size = 0 ∨ endsT n = true
  · exact .inl (if_pos hbad)
  · have hs : nameB (shd n) = true := by
      cases hB : nameB (shd n) with
      | true => rfl
      | false => exact absurd (.inl hB) hbad
    have h0 : n.size ≠ 0 := fun e => hbad (.inr (.inl e))
    have hln := hl hs
    have e : saveD D n b = tailD D n b := by
      unfold saveD
      rw [if_neg hbad, if_neg (by rw [h.dark]; decide), if_neg (by rw [hln]; decide)]
    rw [e]
    unfold tailD
    by_cases hr : frD D < 16 + ((n.size : Int) + 1) + b.length
    · rw [if_pos hr]
      exact .inr (.inl ⟨rfl, hr, hs⟩)
    · rw [if_neg hr]
      exact .inr (.inr ⟨hr, hs, h0, laid_ok h hs h0 hln (by omega)⟩)
end Go.Dol
