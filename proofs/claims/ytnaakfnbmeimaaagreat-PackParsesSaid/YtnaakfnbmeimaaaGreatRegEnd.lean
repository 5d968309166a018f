/- A region that draws, whose last operation waits for all others, be it through another one: it is set aside. Conditions: none. -/
import Derived.Test.YtnaakfnbmeimaaaGreatWordsA
set_option linter.unusedVariables false
namespace Go.Dol
open Go
def endsIn (md : Region.Mode) (ops : Array Oper) (L : Nat) : Bool :=
 decide (L < ops.size) && (List.range ops.size).all (fun i => (match ops[i]? with | none => true | some o => o.after.all fun e => decide (e.on < i)) &&
  (i == L || (match ops[L]? with | none => false | some o => o.after.any fun e => Region.binds md e && (e.on == i || (match ops[e.on]? with | none => false | some o' => o'.after.any fun e' => Region.binds md e' && e'.on == i)))))
def Closed (md : Region.Mode) (ops : Array Oper) (listed : Array Bool) : Prop:=∀ (i : Nat) (o : Oper),ops[i]? = some o → listed.getD i false = true → ∀ e ∈ o.after,Region.binds md e = true → listed.getD e.on false = true
section
variable {P : Program} {ops : Array Oper} {Q : Exit → Act → World → Prop} {md : Region.Mode} {L : Nat} {last : Oper}
theorem getD_kept {listed : Array Bool} {i j : Nat} (h : listed.getD j false = true) : (listed.setIfInBounds i true).getD j false = true:=by
 rw [Array.getD_eq_getD_getElem?,Array.getElem?_setIfInBounds]
 split
 ·split
  ·rfl
  ·rename_i h1 h2
   subst h1
   rw [Array.getD_eq_getD_getElem?,Array.getElem?_eq_none (by omega)] at h
   cases h
 ·rw [← Array.getD_eq_getD_getElem?]; exact h
theorem Closed.set {listed : Array Bool} (h : Closed md ops listed) {i : Nat} (hi : i ∈ Region.ready md ops listed) : Closed md ops (listed.setIfInBounds i true):=by
 intro j o ho hj e he hb
 obtain ⟨_,o',ho',ha⟩:=mem_ready.1 hi
 by_cases hji : j = i
 ·subst hji
  rw [ho'] at ho
  injection ho with ho
  subst ho
  exact getD_kept (ha e he hb)
 ·refine getD_kept (h j o ho ?_ e he hb)
  rw [Array.getD_eq_getD_getElem?,Array.getElem?_setIfInBounds,if_neg (Ne.symm hji),← Array.getD_eq_getD_getElem?] at hj
  exact hj
theorem endsIn_spec (h : endsIn md ops L = true) : L < ops.size ∧ (∀ (i : Nat) (o : Oper),ops[i]? = some o → ∀ e ∈ o.after,e.on < i) ∧ ∀ (i : Nat),i < ops.size → i ≠ L → ∀ o,ops[L]? = some o → (∃ e ∈ o.after,Region.binds md e = true ∧ e.on = i) ∨ ∃ e ∈ o.after,Region.binds md e = true ∧ ∃ o',ops[e.on]? = some o' ∧ ∃ e' ∈ o'.after,Region.binds md e' = true ∧ e'.on = i:=by
 unfold endsIn at h
 rw [Bool.and_eq_true,decide_eq_true_eq,List.all_eq_true] at h
 refine ⟨h.1,fun i o ho e he => ?_,fun i hi hne o ho => ?_⟩
 ·have h1:=h.2 i (List.mem_range.2 (Array.getElem?_eq_some_iff.1 ho).1)
  rw [Bool.and_eq_true,ho] at h1
  have h2:=Array.all_eq_true_iff_forall_mem.1 h1.1 e he
  exact of_decide_eq_true h2
 ·have h1:=h.2 i (List.mem_range.2 hi)
  rw [Bool.and_eq_true,Bool.or_eq_true,ho] at h1
  rcases h1.2 with h2 | h2
  ·exact absurd (by simpa using h2) hne
  ·obtain ⟨e,he,hb⟩:=Array.any_eq_true'.1 h2
   rw [Bool.and_eq_true,Bool.or_eq_true] at hb
   rcases hb.2 with h3 | h3
   ·exact .inl ⟨e,he,hb.1,by simpa using h3⟩
   ·cases ho' : ops[e.on]? with
    | none => rw [ho'] at h3; cases h3
    | some o' =>
     rw [ho'] at h3
     obtain ⟨e',he',hb'⟩:=Array.any_eq_true'.1 h3
     rw [Bool.and_eq_true] at hb'
     exact .inr ⟨e,he,hb.1,o',ho',e',he',hb'.1,by simpa using hb'.2⟩
theorem ready_in (h : endsIn md ops L = true) (listed : Array Bool) (hs : listed.size = ops.size) : ∀ n,n ≤ L → listed.getD n true = false → Region.ready md ops listed ≠ []:=by
 obtain ⟨hL,hb,_⟩:=endsIn_spec h
 intro n
 induction n using Nat.strongRecOn with
 | _ n ih =>
  intro hn hun he
  have hno : ¬ ∃ j,j < n ∧ listed.getD j true = false:=fun ⟨j,hj,hu⟩ => ih j hj (by omega) hu he
  have hm : n ∈ Region.ready md ops listed:=by
   rw [mem_ready]
   refine ⟨hun,ops[n]'(by omega),Array.getElem?_eq_getElem (by omega),fun e hee _ => ?_⟩
   have hlt:=hb n _ (Array.getElem?_eq_getElem (by omega)) e hee
   cases hx : listed.getD e.on false with
   | true => rfl
   | false =>
    refine absurd ⟨e.on,hlt,?_⟩ hno
    rw [Array.getD_eq_getD_getElem?,Array.getElem?_eq_getElem (by omega)] at hx ⊢
    exact hx
  rw [he] at hm
  cases hm
theorem wpAny_end (hends : endsIn md ops L = true) (hL : ops[L]? = some last) (hd : last.dst = none) (hg : last.guard = none) :
  ∀ (fuel : Nat) (listed : Array Bool) (a : Act) (w : World),listed.size = ops.size → Closed md ops listed → listed.getD L true = false →
   wpAny P md (ops.setIfInBounds L (idle last)) (lastQ P last Q) fuel listed a w → wpAny P md ops Q fuel listed a w:=by
 intro fuel
 induction fuel with
 | zero =>
  intro listed a w hs hc hu h
  rw [wpAny,ready_idle hL] at h
  exact absurd h.1 (ready_in hends listed hs L (Nat.le_refl _) hu)
 | succ fuel ih =>
  intro listed a w hs hc hu h
  rw [wpAny,ready_idle hL] at h
  refine ⟨fun h0 => absurd h0 (ready_in hends listed hs L (Nat.le_refl _) hu),fun i hi => ?_⟩
  have h1:=h.2 i hi
  by_cases hiL : i = L
  ·subst hiL
   have hall : ∀ j,j < ops.size → (listed.setIfInBounds i true).getD j true = true:=by
    intro j hj
    by_cases hji : j = i
    ·subst hji
     rw [Array.getD_eq_getD_getElem?,Array.getElem?_setIfInBounds,if_pos rfl,if_pos (by omega)]
     rfl
    ·obtain ⟨_,o,ho,ha⟩:=mem_ready.1 hi
     have h2 : listed.getD j false = true:=by
      rcases (endsIn_spec hends).2.2 j hj hji o ho with ⟨e,he,hb,he2⟩ | ⟨e,he,hb,o',ho',e',he',hb',he2⟩
      ·have h2:=ha e he hb
       rw [he2] at h2
       exact h2
      ·have h3:=hc e.on o' ho' (ha e he hb) e' he' hb'
       rw [he2] at h3
       exact h3
     rw [getD_set_ne true (Ne.symm hji)]
     rw [Array.getD_eq_getD_getElem?,Array.getElem?_eq_getElem (by omega)] at h2 ⊢
     exact h2
   have hnone : Region.ready md ops (listed.setIfInBounds i true) = []:=by
    unfold Region.ready
    rw [List.filter_eq_nil_iff]
    intro j hj
    rw [hall j (List.mem_range.1 hj)]
    simp
   unfold wpOp at h1 ⊢
   rw [idle_here hL] at h1
   rw [hL]
   simp only at h1 ⊢
   have hw1 : Region.wanted (idle last) (yielded (ops.setIfInBounds i (idle last)) a.tmps) = true:=by
    show (match last.guard with | none => true | some (j,want) => _) = true
    rw [hg]
   have hw2 : Region.wanted last (yielded ops a.tmps) = true:=by
    unfold Region.wanted
    rw [hg]
   rw [if_pos hw1] at h1
   rw [if_pos hw2]
   have hfin : ∀ a' w',wpAny P md (ops.setIfInBounds i (idle last)) (lastQ P last Q) fuel (listed.setIfInBounds i true) a' w' → lastQ P last Q .normal a' w':=by
    intro a' w' h3
    cases fuel with
    | zero => exact h3.2
    | succ f => exact h3.1 (by rw [ready_idle hL]; exact hnone)
   have hput : a.put (idle last).dst undef = a:=by
    show a.put last.dst undef = a
    rw [hd]
    rfl
   rcases h1 with h1 | h1
   ·have h2 : wpAny P md (ops.setIfInBounds i (idle last)) (lastQ P last Q) fuel (listed.setIfInBounds i true) (a.put (idle last).dst undef) w:=h1
    rw [hput] at h2
    refine .inl (Oper.wp_mono (fun a' w' h3 => wpAny_done hnone h3 fuel) (hfin _ _ h2))
   ·exfalso
    have h3:=h1.1.1
    revert h3
    simp [execOp,idle,noRoomEvent]
    exact fun h => by
     have h4 : ({ loc:=Loc.mark Mark.noRoom,write:=false,sync:=true } : Event) ∈ (#[] : Array Event):=h
     simp at h4
  ·unfold wpOp at h1 ⊢
   rw [idle_at hiL,yielded_idle hL] at h1
   cases ho : ops[i]? with
   | none =>
    rw [ho] at h1
    simp only at h1 ⊢
    exact ih _ _ _ (by simpa using hs) (hc.set hi) (by rw [getD_set_ne true hiL]; exact hu) h1
   | some o =>
    rw [ho] at h1
    simp only at h1 ⊢
    have hK : ∀ a' w',wpAny P md (ops.setIfInBounds L (idle last)) (lastQ P last Q) fuel (listed.setIfInBounds i true) a' w' → wpAny P md ops Q fuel (listed.setIfInBounds i true) a' w' :=
     fun a' w' h3 => ih _ _ _ (by simpa using hs) (hc.set hi) (by rw [getD_set_ne true hiL]; exact hu) h3
    split
    ·rename_i hw
     rw [if_pos hw] at h1
     rcases h1 with h1 | h1
     ·exact .inl (wp_turned hK h1)
     ·exact .inr ⟨h1.1,by obtain ⟨a',w',h2⟩:=h1.2; exact ⟨a',w',h2⟩⟩
    ·rename_i hw
     rw [if_neg hw] at h1
     exact hK _ _ h1
theorem wp_region_end {id : Nat} {a : Act} {w : World} {S : World → Prop} (L : Nat) (last : Oper) (hm : P.follows .mixedOrders = true) (hL : ops[L]? = some last) (hends : endsIn .any ops L = true) (hd : last.dst = none) (hg : last.guard = none)
  (hS : S w.drew) (h : S w.drew → wpAnyH P .any (ops.setIfInBounds L (idle last)) (lastQ P last Q) S ops.size (Array.replicate ops.size false) a w.drew) : (Code.region id ops true).wp P Q a w:=by
 refine wp_region_any hm (wpAny_end hends hL hd hg _ _ _ _ (by simp) ?_ ?_ (wpAny_of_held _ _ _ _ (h hS)))
 ·intro i o _ hi
  have h0 : (Array.replicate ops.size false).getD i false = false:=by
   rw [Array.getD_eq_getD_getElem?,Array.getElem?_replicate]
   split <;> rfl
  rw [h0] at hi
  cases hi
 ·have:=(Array.getElem?_eq_some_iff.1 hL).1
  simp [this]
end
end Go.Dol
