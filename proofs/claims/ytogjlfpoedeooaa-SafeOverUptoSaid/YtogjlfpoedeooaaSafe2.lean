/- A range over an iterator that keeps what it has to tell still in a cell of its own; the iterator of chunks. Conditions: none beyond what each law names. -/
import Derived.Test.YtogjlfpoedeooaaSafe1
import Derived.RangeFuncNested
import Derived.RangeFuncBound
import Derived.RangeFuncCalls
import Derived.RangeFuncLeaves
import Derived.Shelf.Abstract
import Derived.Shelf.RegionOpen
import Derived.OwnWalkIn
import Derived.TacticsInMore
import Derived.LoopNIn
import Derived.LoopIn
namespace Go.Dol
open Go.RowKit
set_option linter.unusedVariables false
variable {F : Fence} {n : Nat} {P : Program}

/-- What an iterator owes that writes just the cell of block x between two rounds: each thing that it tells meets Pr. -/
def SeqCell {α : Type} (F : Fence) (n : Nat) (P : Program) (gf : Nat) (lb : Array Value) (enc : α → Value) (x : Nat) (Pr : List α → α → World → Prop) (Kp : World → World → Prop) (S Sp : List α → Prop) (w : World) : Prop :=
  ∀ (l : Nat) (J Jx : List α → World → Prop) (W : World), Below w.heap.size w W → (∀ pre W u, J pre W → J pre (W.setCell ⟨x, 0, none⟩ u)) →
    (∀ pre y W1, J pre W1 → Pr pre y W1 → YieldAt F (n - 1) P l #[enc y] W1 fun e W' => (e = .returned (.bool true) ∧ J (pre ++ [y]) W' ∧ Kp W1 W') ∨ (e = .returned (.bool false) ∧ Jx (pre ++ [y]) W')) →
    J [] W → CallsIn F n P gf (#[.func (.yield l) #[] #[]] ++ lb) W fun e W' => (∃ v, e = .returned v) ∧ ((∃ xs, S xs ∧ J xs W') ∨ (∃ pre, Sp pre ∧ Jx pre W'))

/-- Block l holds no cells. -/
def NoCells (W : World) (l : Nat) : Prop := ∃ o : Obj, W.heap[l]? = some o ∧ o.isCells = false
/-- The record of such a loop, and the block for what its rounds defer. -/
structure LoopAt (r : Loop) (D : Nat) (W : World) : Prop where
  rec_ : W.heap[D + 1]? = some (.loop r)
  def_ : W.heap[D]? = some (.deferred (some []))
theorem LoopAt.keep {r : Loop} {D B : Nat} {W W' : World} (h : LoopAt r D W) (hk : KeepsFrom B W W') (hB : B ≤ D) : LoopAt r D W' :=
  ⟨hk.same _ _ (by omega) h.rec_ rfl, hk.same _ _ hB h.def_ rfl⟩
theorem LoopAt.no {r : Loop} {D : Nat} {W : World} (h : LoopAt r D W) : NoCells W (D + 1) := ⟨_, h.rec_, rfl⟩
theorem LoopAt.put {r : Loop} {D : Nat} {W : World} (h : LoopAt r D W) (r' : Loop) : LoopAt r' D (W.putObj (D + 1) (.loop r')) :=
  ⟨World.putObj_heap_same (Array.getElem?_eq_some_iff.1 h.rec_).1, (World.putObj_heap_other (by omega)).trans h.def_⟩
theorem LoopAt.cell {r : Loop} {D x : Nat} {W : World} (h : LoopAt r D W) (hx : x < D) (u : Value) : LoopAt r D (W.setCell ⟨x, 0, none⟩ u) :=
  ⟨(Below.heap_setCell W _ u _ (by show D + 1 ≠ x; omega)).trans h.rec_, (Below.heap_setCell W _ u _ (by show D ≠ x; omega)).trans h.def_⟩

/-- 'for y := range seq { .. }' over such an iterator: what holds between two rounds (I) minds neither the iterator's cell nor the loop's own book-keeping; each way by which the body is left keeps its word. -/
theorem range_cell {α : Type} {g : Operand} {p : Tmp} {assign body : Code} {Q : Exit → Act → World → Prop} {a : Act} {w : World}
    (hro : F.round = none) (h1 : 1 ≤ n) {gf : Nat} {lb : Array Value} (hg : a.eval g = .func (.func gf) #[] lb) (hFg : F.fn gf) (eg : ∀ args w, (callFunc gf args).run P w = .ok (.enter gf args) w)
    {enc : α → Value} {x : Nat} {Pr : List α → α → World → Prop} {Kp : World → World → Prop} {S Sp : List α → Prop} {w0 : World} (hseq : SeqCell F (n - 1) P gf lb enc x Pr Kp S Sp w0) (hx : x < w.heap.size)
    (hKt : ∀ {A B C : World}, Kp A B → Kp B C → Kp A C) (hKb : ∀ W l o, w.heap.size ≤ l → NoCells W l → Kp W (W.putObj l o)) (hb0 : Below w0.heap.size w0 w)
    (I Ix : List α → World → Prop) (hI : ∀ pre W o, I pre W → I pre (W.alloc o)) (hIp : ∀ pre W l o, w.heap.size ≤ l → NoCells W l → I pre W → I pre (W.putObj l o)) (hIc : ∀ pre W u, I pre W → I pre (W.setCell ⟨x, 0, none⟩ u)) (hIxp : ∀ pre W l o, w.heap.size ≤ l → NoCells W l → Ix pre W → Ix pre (W.putObj l o))
    (hPr : ∀ pre y W l o, w.heap.size ≤ l → NoCells W l → Pr pre y W → Pr pre y (W.putObj l o)) (h0 : I [] w) (q : Tmp)
    (hassign : ∀ (l : Nat) (y : α) (W : World) (K : Act → World → Prop), K { tmps := (a.tmps.setIfInBounds p (enc y)).setIfInBounds q (enc y), defers := [] } W → assign.wpIn (F.inRound l) (n - 1 - 1) P (Exit.then K (fun _ _ _ => False)) { tmps := a.tmps.setIfInBounds p (enc y), defers := [] } W)
    (hbody : ∀ (l : Nat) (pre : List α) (y : α) (W : World), I pre W → Pr pre y W → body.wpIn (F.inRound l) (n - 1 - 1) P (fun e _ W' => match e with | .normal => KeepsFrom w.heap.size W W' ∧ Kp W W' ∧ I (pre ++ [y]) W' | .ret => KeepsFrom w.heap.size W W' ∧ Ix (pre ++ [y]) W' | _ => False) { tmps := (a.tmps.setIfInBounds p (enc y)).setIfInBounds q (enc y), defers := [] } W)
    (hdone : ∀ (D : Nat) (xs : List α) (W : World), w.heap.size ≤ D → S xs → I xs W → W.heap[D]? = some (.deferred (some [])) → Q .normal { a with defers := { target := .collected D, args := #[] } :: a.defers } W)
    (hstop : ∀ (D : Nat) (pre : List α) (W : World), w.heap.size ≤ D → Sp pre → Ix pre W → W.heap[D]? = some (.deferred (some [])) → Code.ret.wpIn F n P Q { a with defers := { target := .collected D, args := #[] } :: a.defers } W) :
    (Code.rangeFunc g #[p] assign body).wpIn F n P Q a w := by
  refine wpIn_rangeFunc fun fn hfn => ?_
  rw [hro]
  let R : LoopState → Option Code → Loop := fun st pe => { state := st, pending := pe, fn, tmps := a.tmps, params := #[p], assign, body, defers := w.heap.size }
  refine ⟨w.heap.size + 1, [{ target := .collected w.heap.size, args := #[] }], (w.alloc (.deferred (some []))).alloc (.loop (R .ready none)), { target := .fn (.func gf) lb, args := #[.func (.yield (w.heap.size + 1)) #[] #[]] }, (w.alloc (.deferred (some []))).alloc (.loop (R .ready none)), gf,
    #[.func (.yield (w.heap.size + 1)) #[] #[]] ++ lb, (w.alloc (.deferred (some []))).alloc (.loop (R .ready none)), run_enterLoop_outer fn a.tmps #[p] assign body, ?_, ?_, ?_, fun _ => h1, ?_⟩
  · simp only [resolve, hg]
    simp [go_sem]
  · intro f' hf'
    simp only [Target.leads, Option.some.injEq] at hf'
    rw [← hf']
    exact hFg
  · simp [invoke, go_sem, eg]
  have hA : Below w.heap.size w ((w.alloc (.deferred (some []))).alloc (.loop (R .ready none))) := ((Below.refl _ _).alloc (Nat.le_refl _) _).alloc (by simp) _
  have hL0 : LoopAt (R .ready none) w.heap.size ((w.alloc (.deferred (some []))).alloc (.loop (R .ready none))) := by
    refine ⟨?_, (Below.heap_alloc _ _ _ (by simp)).trans (World.alloc_heap_new w _)⟩
    have := World.alloc_heap_new (w.alloc (.deferred (some []))) (.loop (R .ready none))
    rwa [World.size_alloc] at this
  refine (hseq (w.heap.size + 1) (fun pre W => I pre W ∧ LoopAt (R .ready none) w.heap.size W) (fun pre W => Ix pre W ∧ LoopAt (R .done (some .ret)) w.heap.size W) _ (hb0.trans (hA.mono hb0.size))
    (fun pre W u h => ⟨hIc pre W u h.1, h.2.cell hx u⟩) ?_ ⟨hI _ _ _ (hI _ _ _ h0), hL0⟩).mono ?_
  · intro pre y W h hp
    obtain ⟨hi, hl⟩ := h
    refine ⟨fn, a.tmps.setIfInBounds p (enc y), assign, body, (run_yield (args := #[enc y]) hl.rec_ (by rfl)).trans (by simp [R]), ?_⟩
    refine roundIn_of_wpIn hfn (hassign _ y W _ ?_)
    refine ⟨_, run_beginRound hl.rec_ rfl, ?_⟩
    have hl2 := hl.put (R .busy none)
    refine wpIn_mono (hbody _ pre y _ (hIp _ _ _ _ (by omega) hl.no hi) (hPr _ _ _ _ _ (by omega) hl.no hp)) ?_
    intro e a3 W3 hq
    cases e with
    | normal =>
      obtain ⟨hk, hkp, hi3⟩ := hq
      have hl3 := hl2.keep hk (Nat.le_refl _)
      exact ⟨_, _, run_endRound none hl3.rec_, .inl ⟨rfl, ⟨hIp _ _ _ _ (by omega) hl3.no hi3, hl3.put _⟩, hKt (hKt (hKb _ _ _ (by omega) hl.no) hkp) (hKb _ _ _ (by omega) hl3.no)⟩⟩
    | ret =>
      obtain ⟨hk, hi3⟩ := hq
      have hl3 := hl2.keep hk (Nat.le_refl _)
      exact ⟨_, _, run_endRound (some .ret) hl3.rec_, .inr ⟨rfl, hIxp _ _ _ _ (by omega) hl3.no hi3, hl3.put _⟩⟩
    | exit id => exact hq.elim
    | goto t => exact hq.elim
    | panic c => exact hq.elim
    | outgrown => exact hq.elim
  · rintro e W2 ⟨⟨v, rfl⟩, (⟨xs, hS, hi, hl⟩ | ⟨pre, hS, hi, hl⟩)⟩
    · exact ⟨none, _, run_endLoop hl.rec_ (by simp [R]), hdone _ xs _ (Nat.le_refl _) hS (hIp _ _ _ _ (by omega) hl.no hi) (hl.put _).def_⟩
    · exact ⟨some .ret, _, run_endLoop hl.rec_ (by simp [R]), hstop _ pre _ (Nat.le_refl _) hS (hIxp _ _ _ _ (by omega) hl.no hi) (hl.put _).def_⟩
end Go.Dol
