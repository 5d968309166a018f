/- A region that draws its order and ends with a store into a cell that it loads: its last operation is set aside, and run behind all others. Conditions: the last operation waits for all others (checked by evaluation). -/
import Derived.Deep.RegionHeld3
import Derived.BigQuiet
namespace Go.Dol
open Go

/-- The operation, doing nothing. -/
def idle (o : Oper) : Oper := { o with op := .move (.const undef) }
/-- What is asked behind the others: the last one, and then Q. -/
def lastQ (P : Program) (o : Oper) (Q : Exit → Act → World → Prop) : Exit → Act → World → Prop
  | .normal, a, w => o.wp P a w (fun a' w' => Q .normal a' w') Q
  | e, a, w => Q e a w
/-- The operation at L waits for all others; nobody waits for one behind itself. -/
def endsAt (md : Region.Mode) (ops : Array Oper) (L : Nat) : Bool :=
  decide (L < ops.size) && (List.range ops.size).all (fun i => (match ops[i]? with | none => true | some o => o.after.all fun e => decide (e.on < i)) &&
    (i == L || (match ops[L]? with | none => false | some o => o.after.any fun e => Region.binds md e && e.on == i)))

section
variable {P : Program} {ops : Array Oper} {Q : Exit → Act → World → Prop} {md : Region.Mode} {L : Nat} {last : Oper}

theorem wp_turned {o : Oper} {a : Act} {w : World} {K K' : Act → World → Prop} (hK : ∀ a w, K' a w → K a w) (h : o.wp P a w K' (lastQ P last Q)) : o.wp P a w K Q := by
  unfold Oper.wp at *
  generalize (execOp a.eval o).run P w = r at *
  cases r with
  | ok n w' =>
    cases n <;> simp only [Oper.upon] at h ⊢
    case value v => exact hK _ _ h
    case skip => exact hK _ _ h
    case defer d => exact hK _ _ h
    case enter f args => exact Calls.mono h fun e w'' he => by cases e <;> first | exact hK _ _ he | exact he
    case row row args => exact Rows.mono h fun v w'' he => hK _ _ he
  | halt x w' => cases x <;> simp only [Oper.upon] at h ⊢ <;> exact h

theorem idle_at {i : Nat} (h : i ≠ L) : (ops.setIfInBounds L (idle last))[i]? = ops[i]? := Array.getElem?_setIfInBounds_ne (Ne.symm h)
theorem idle_here (hL : ops[L]? = some last) : (ops.setIfInBounds L (idle last))[L]? = some (idle last) := by
  have h := (Array.getElem?_eq_some_iff.1 hL).1
  rw [Array.getElem?_setIfInBounds, if_pos rfl, if_pos h]
theorem ready_idle (hL : ops[L]? = some last) (listed : Array Bool) : Region.ready md (ops.setIfInBounds L (idle last)) listed = Region.ready md ops listed := by
  unfold Region.ready
  rw [Array.size_setIfInBounds]
  refine List.filter_congr fun i _ => ?_
  by_cases h : i = L
  · subst h
    rw [idle_here hL, hL]
    rfl
  · rw [idle_at h]
theorem yielded_idle (hL : ops[L]? = some last) (tmps : Array Value) : yielded (ops.setIfInBounds L (idle last)) tmps = yielded ops tmps := by
  funext i
  unfold yielded
  by_cases h : i = L
  · subst h
    rw [idle_here hL, hL]
    rfl
  · rw [idle_at h]

theorem ends_spec (h : endsAt md ops L = true) : L < ops.size ∧ (∀ (i : Nat) (o : Oper), ops[i]? = some o → ∀ e ∈ o.after, e.on < i) ∧ ∀ (i : Nat), i < ops.size → i ≠ L → ∀ o, ops[L]? = some o → ∃ e ∈ o.after, Region.binds md e = true ∧ e.on = i := by
  unfold endsAt at h
  rw [Bool.and_eq_true, decide_eq_true_eq, List.all_eq_true] at h
  refine ⟨h.1, fun i o ho e he => ?_, fun i hi hne o ho => ?_⟩
  · have h1 := h.2 i (List.mem_range.2 (Array.getElem?_eq_some_iff.1 ho).1)
    rw [Bool.and_eq_true, ho] at h1
    have h2 := Array.all_eq_true_iff_forall_mem.1 h1.1 e he
    exact of_decide_eq_true h2
  · have h1 := h.2 i (List.mem_range.2 hi)
    rw [Bool.and_eq_true, Bool.or_eq_true, ho] at h1
    rcases h1.2 with h2 | h2
    · exact absurd (by simpa using h2) hne
    · obtain ⟨e, he, hb⟩ := Array.any_eq_true'.1 h2
      rw [Bool.and_eq_true] at hb
      exact ⟨e, he, hb.1, by simpa using hb.2⟩

/-- As long as the last one is not listed, something may come up. -/
theorem ready_some (h : endsAt md ops L = true) (listed : Array Bool) (hs : listed.size = ops.size) : ∀ n, n ≤ L → listed.getD n true = false → Region.ready md ops listed ≠ [] := by
  obtain ⟨hL, hb, _⟩ := ends_spec h
  intro n
  induction n using Nat.strongRecOn with
  | _ n ih =>
    intro hn hun he
    have hno : ¬ ∃ j, j < n ∧ listed.getD j true = false := fun ⟨j, hj, hu⟩ => ih j hj (by omega) hu he
    have hm : n ∈ Region.ready md ops listed := by
      rw [mem_ready]
      refine ⟨hun, ops[n]'(by omega), Array.getElem?_eq_getElem (by omega), fun e hee _ => ?_⟩
      have hlt := hb n _ (Array.getElem?_eq_getElem (by omega)) e hee
      cases hx : listed.getD e.on false with
      | true => rfl
      | false =>
        refine absurd ⟨e.on, hlt, ?_⟩ hno
        rw [Array.getD_eq_getD_getElem?, Array.getElem?_eq_getElem (by omega)] at hx ⊢
        exact hx
    rw [he] at hm
    cases hm

/-- How many are not listed yet. -/
def unlisted (listed : Array Bool) (n : Nat) : Nat := ((List.range n).filter fun i => !listed.getD i true).length

theorem wpAny_last (hends : endsAt md ops L = true) (hL : ops[L]? = some last) (hd : last.dst = none) (hg : last.guard = none) :
    ∀ (fuel : Nat) (listed : Array Bool) (a : Act) (w : World), listed.size = ops.size → listed.getD L true = false →
      wpAny P md (ops.setIfInBounds L (idle last)) (lastQ P last Q) fuel listed a w → wpAny P md ops Q fuel listed a w := by
  intro fuel
  induction fuel with
  | zero =>
    intro listed a w hs hu h
    rw [wpAny, ready_idle hL] at h
    exact absurd h.1 (ready_some hends listed hs L (Nat.le_refl _) hu)
  | succ fuel ih =>
    intro listed a w hs hu h
    rw [wpAny, ready_idle hL] at h
    refine ⟨fun h0 => absurd h0 (ready_some hends listed hs L (Nat.le_refl _) hu), fun i hi => ?_⟩
    have h1 := h.2 i hi
    by_cases hiL : i = L
    · subst hiL
      have hall : ∀ j, j < ops.size → (listed.setIfInBounds i true).getD j true = true := by
        intro j hj
        by_cases hji : j = i
        · subst hji
          rw [Array.getD_eq_getD_getElem?, Array.getElem?_setIfInBounds, if_pos rfl, if_pos (by omega)]
          rfl
        · obtain ⟨_, o, ho, ha⟩ := mem_ready.1 hi
          obtain ⟨e, he, hb, he2⟩ := (ends_spec hends).2.2 j hj hji o ho
          have h2 := ha e he hb
          rw [he2] at h2
          rw [getD_set_ne true (Ne.symm hji)]
          rw [Array.getD_eq_getD_getElem?, Array.getElem?_eq_getElem (by omega)] at h2 ⊢
          exact h2
      have hnone : Region.ready md ops (listed.setIfInBounds i true) = [] := by
        unfold Region.ready
        rw [List.filter_eq_nil_iff]
        intro j hj
        rw [hall j (List.mem_range.1 hj)]
        simp
      unfold wpOp at h1 ⊢
      rw [idle_here hL] at h1
      rw [hL]
      simp only at h1 ⊢
      have hw1 : Region.wanted (idle last) (yielded (ops.setIfInBounds i (idle last)) a.tmps) = true := by
        show (match last.guard with | none => true | some (j, want) => _) = true
        rw [hg]
      have hw2 : Region.wanted last (yielded ops a.tmps) = true := by
        unfold Region.wanted
        rw [hg]
      rw [if_pos hw1] at h1
      rw [if_pos hw2]
      have hfin : ∀ a' w', wpAny P md (ops.setIfInBounds i (idle last)) (lastQ P last Q) fuel (listed.setIfInBounds i true) a' w' → lastQ P last Q .normal a' w' := by
        intro a' w' h3
        cases fuel with
        | zero => exact h3.2
        | succ f => exact h3.1 (by rw [ready_idle hL]; exact hnone)
      have hput : a.put (idle last).dst undef = a := by
        show a.put last.dst undef = a
        rw [hd]
        rfl
      rcases h1 with h1 | h1
      · have h2 : wpAny P md (ops.setIfInBounds i (idle last)) (lastQ P last Q) fuel (listed.setIfInBounds i true) (a.put (idle last).dst undef) w := h1
        rw [hput] at h2
        refine .inl (Oper.wp_mono (fun a' w' h3 => wpAny_done hnone h3 fuel) (hfin _ _ h2))
      · exfalso
        have h3 := h1.1.1
        revert h3
        simp [execOp, idle, noRoomEvent]
        exact fun h => by
          have h4 : ({ loc := Loc.mark Mark.noRoom, write := false, sync := true } : Event) ∈ (#[] : Array Event) := h
          simp at h4
    · unfold wpOp at h1 ⊢
      rw [idle_at hiL, yielded_idle hL] at h1
      cases ho : ops[i]? with
      | none =>
        rw [ho] at h1
        simp only at h1 ⊢
        exact ih _ _ _ (by simpa using hs) (by rw [getD_set_ne true hiL]; exact hu) h1
      | some o =>
        rw [ho] at h1
        simp only at h1 ⊢
        have hK : ∀ a' w', wpAny P md (ops.setIfInBounds L (idle last)) (lastQ P last Q) fuel (listed.setIfInBounds i true) a' w' → wpAny P md ops Q fuel (listed.setIfInBounds i true) a' w' :=
          fun a' w' h3 => ih _ _ _ (by simpa using hs) (by rw [getD_set_ne true hiL]; exact hu) h3
        split
        · rename_i hw
          rw [if_pos hw] at h1
          rcases h1 with h1 | h1
          · exact .inl (wp_turned hK h1)
          · exact .inr ⟨h1.1, by obtain ⟨a', w', h2⟩ := h1.2; exact ⟨a', w', h2⟩⟩
        · rename_i hw
          rw [if_neg hw] at h1
          exact hK _ _ h1

/-- The beginning: S holds of all worlds ahead of the last operation. -/
theorem wp_region_last {id : Nat} {a : Act} {w : World} {S : World → Prop} (L : Nat) (last : Oper) (hm : P.follows .mixedOrders = true) (hL : ops[L]? = some last) (hends : endsAt .any ops L = true) (hd : last.dst = none) (hg : last.guard = none)
    (hS : S w.drew) (h : S w.drew → wpAnyH P .any (ops.setIfInBounds L (idle last)) (lastQ P last Q) S ops.size (Array.replicate ops.size false) a w.drew) : (Code.region id ops true).wp P Q a w := by
  refine wp_region_any hm (wpAny_last hends hL hd hg _ _ _ _ (by simp) ?_ (wpAny_of_held _ _ _ _ (h hS)))
  have := (Array.getElem?_eq_some_iff.1 hL).1
  simp [this]
end
end Go.Dol
