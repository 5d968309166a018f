/- The walks of the layer 'safe', its first part: what a save needs; how a name ends. Conditions: lengths below 2^46. A range over an iterator that keeps what it has to tell still in a cell of its own; the iterator of chunks. Conditions: none beyond what each law names. The iterator of chunks, walked: what it tells, for each loop body that keeps its word. Conditions: lengths below 2^63. What a save does, in plain Lean. No program is in sight. Conditions: none beyond what each lemma names. A map that is known by its entries, as the library's laws want it. Conditions: at most 2^47 entries. A pack in memory: its block, its row of parts, its map of bytes, its ids; the walks of Has, Get, Parts. Conditions: at most 2^40 parts. What layer 'loose' computes, in plain Lean: each object in a file of its own. No program is in sight. Conditions: none. Files as they lie in memory, one behind the other: o -/
import Derived.Test.YtecpbcmpncgokaaGreatDiskM
import Derived.RangeFuncNested
import Derived.RangeFuncBound
import Derived.RangeFuncCalls
import Derived.RangeFuncLeaves
import Derived.Shelf.Abstract
import Derived.Shelf.RegionOpen
import Derived.OwnWalkIn
import Derived.TacticsInMore
import Derived.LoopNIn
import Derived.LoopIn
import Derived.Test.YtecpbcmpncgokaaGreatWordsA
import Derived.Deep.Onto
import Derived.Shelf.SlIter.Nil
import Derived.Test.YtecpbcmpncgokaaGreatDisk2
import Derived.Test.YtecpbcmpncgokaaGreatHexLaw
import Derived.Test.YtecpbcmpncgokaaGreatDiskLaw
namespace Go.Dol
theorem last_eq {s : ByteArray} (h : ¬ s.size < 1) : ((s.extract (s.size - 1) s.size).toList == [126]) = decide (s.data.toList.getLast? = some 126) := by
  have hl := str_len s
  obtain ⟨l, hL⟩ : ∃ l, l = s.data.toList := ⟨_, rfl⟩
  have e1 : (s.extract (s.size - 1) s.size).toList = l.drop (s.size - 1) := by
    rw [ByteArray.toList_eq, ByteArray.data_extract, Array.toList_extract, hL]
    simp only [List.extract_eq_take_drop]
    exact List.take_of_length_le (by rw [List.length_drop]; omega)
  rw [← hL] at hl
  rw [e1, ← hL]
  obtain ⟨k, hk⟩ : ∃ k, s.size = k + 1 := ⟨s.size - 1, by omega⟩
  have hkl : k < l.length := by omega
  have e2 : l.drop k = [l[k]] := by
    rw [List.drop_eq_getElem_cons hkl, List.drop_eq_nil_of_le (by omega)]
  have e3 : l.getLast? = some l[k] := by
    rw [List.getLast?_eq_getElem?, show l.length - 1 = k by omega]
    exact List.getElem?_eq_getElem hkl
  rw [hk, Nat.add_sub_cancel, e2, e3]
  by_cases hx : l[k] = 126 <;> simp [hx]
end Go.Dol
namespace Go.Proofs.YtecpbcmpncgokaaGreat
open Go.RowKit Go.Dol
set_option linter.unusedVariables false
set_option maxRecDepth 100000 in
set_option maxHeartbeats 800000 in
theorem Need_calls (n : ByteArray) (k : Int) (w : World) (hn : n.size ≤ 140737488355328) (hk0 : -4611686018427387904 ≤ k) (hk : k ≤ 4611686018427387904) :
    Calls Tryz.prog 134 #[.string n, .int .i64 k] w fun e w' => e = .returned (.int .i64 (16 + (n.size + 1) + max k 0)) ∧ w' = w := by
  have f1 : IntKind.i64.wrap (16 + ((n.size : Int) + 1)) = 16 + ((n.size : Int) + 1) := IntWalk.i64_in _ (by omega)
  have f2 : IntKind.i64.wrap (16 + ((n.size : Int) + 1) + max k 0) = 16 + ((n.size : Int) + 1) + max k 0 := IntWalk.i64_in _ (by omega)
  go_enter Tryz.func134, Tryz.ntmps134
  go_wp2_with fail
  go_ret
  exact ⟨rfl, rfl⟩
set_option maxRecDepth 100000 in
set_option maxHeartbeats 800000 in
theorem suffix_calls (s : ByteArray) (w : World) (hn : s.size ≤ maxLen) :
    Calls Tryz.prog 186 #[.string s, .string ⟨#[126]⟩] w fun e w' => e = .returned (.bool (decide (s.data.toList.getLast? = some 126))) ∧ w' = w := by
  by_cases h0 : s.size < 1
  · have d1 : decide ((s.size : Int) ≥ 1) = false := decide_eq_false (by omega)
    have d1' : decide ((1 : Int) ≤ (s.size : Int)) = false := decide_eq_false (by omega)
    go_enter Tryz.func186, Tryz.ntmps186
    go_wp2_with fail
    go_ret
    refine ⟨?_, rfl⟩
    have h1 : s.data.toList = [] := List.eq_nil_of_length_eq_zero (by rw [str_len]; omega)
    rw [h1]
    rfl
  · have d1 : decide ((s.size : Int) ≥ 1) = true := decide_eq_true (by omega)
    have d1' : decide ((1 : Int) ≤ (s.size : Int)) = true := decide_eq_true (by omega)
    have f1 : IntKind.i64.wrap ((s.size : Int) - 1) = (s.size : Int) - 1 := IntWalk.i64_in _ (by unfold maxLen at hn; omega)
    go_enter Tryz.func186, Tryz.ntmps186
    go_wp2_with fail
    go_ret
    refine ⟨?_, rfl⟩
    rw [last_eq h0]
    rfl
set_option maxRecDepth 100000 in
set_option maxHeartbeats 800000 in
theorem HasSuffix_calls (s : ByteArray) (w : World) (hn : s.size ≤ maxLen) :
    Calls Tryz.prog 117 #[.string s, .string ⟨#[126]⟩] w fun e w' => e = .returned (.bool (decide (s.data.toList.getLast? = some 126))) ∧ w' = w := by
  have h := suffix_calls s w hn
  generalize decide (s.data.toList.getLast? = some 126) = r at h ⊢
  go_enter Tryz.func117, Tryz.ntmps117
  go_wp2_with ((go_at_call 186; refine h.mono ?_; rintro e w' ⟨rfl, rfl⟩))
  go_ret
  exact ⟨rfl, rfl⟩
end Go.Proofs.YtecpbcmpncgokaaGreat

namespace Go.Dol
open Go.RowKit
set_option linter.unusedVariables false
variable {F : Fence} {n : Nat} {P : Program}

/-- What an iterator owes that writes just the cell of block x between two rounds: each thing that it tells meets Pr. -/
def SeqCell {α : Type} (F : Fence) (n : Nat) (P : Program) (gf : Nat) (lb : Array Value) (enc : α → Value) (x : Nat) (Pr : List α → α → World → Prop) (Kp : World → World → Prop) (S Sp : List α → Prop) (w : World) : Prop :=
  ∀ (l : Nat) (J Jx : List α → World → Prop) (W : World), Below w.heap.size w W → (∀ pre W u, J pre W → J pre (W.setCell ⟨x, 0, none⟩ u)) →
    (∀ pre y W1, J pre W1 → Pr pre y W1 → YieldAt F (n - 1) P l #[enc y] W1 fun e W' => (e = .returned (.bool true) ∧ J (pre ++ [y]) W' ∧ Kp W1 W') ∨ (e = .returned (.bool false) ∧ Jx (pre ++ [y]) W')) →
    J [] W → CallsIn F n P gf (#[.func (.yield l) #[] #[]] ++ lb) W fun e W' => (∃ v, e = .returned v) ∧ ((∃ xs, S xs ∧ J xs W') ∨ (∃ pre, Sp pre ∧ Jx pre W'))

/-- Block l holds no cells. -/
def NoCells (W : World) (l : Nat) : Prop := ∃ o : Go.Obj, W.heap[l]? = some o ∧ o.isCells = false
/-- The record of such a loop, and the block for what its rounds defer. -/
structure LoopAt (r : Loop) (D : Nat) (W : World) : Prop where
  rec_ : W.heap[D + 1]? = some (.loop r)
  def_ : W.heap[D]? = some (.deferred (some []))
theorem LoopAt.keep {r : Loop} {D B : Nat} {W W' : World} (h : LoopAt r D W) (hk : KeepsFrom B W W') (hB : B ≤ D) : LoopAt r D W' :=
  ⟨hk.same _ _ (by omega) h.rec_ rfl, hk.same _ _ hB h.def_ rfl⟩
theorem LoopAt.no {r : Loop} {D : Nat} {W : World} (h : LoopAt r D W) : NoCells W (D + 1) := ⟨_, h.rec_, rfl⟩
theorem LoopAt.put {r : Loop} {D : Nat} {W : World} (h : LoopAt r D W) (r' : Loop) : LoopAt r' D (W.putObj (D + 1) (.loop r')) :=
  ⟨World.putObj_heap_same (Array.getElem?_eq_some_iff.1 h.rec_).1, (World.putObj_heap_other (by omega)).trans h.def_⟩
theorem LoopAt.cell {r : Loop} {D x : Nat} {W : World} (h : LoopAt r D W) (hx : x < D) (u : Value) : LoopAt r D (W.setCell ⟨x, 0, none⟩ u) :=
  ⟨(Below.heap_setCell W _ u _ (by show D + 1 ≠ x; omega)).trans h.rec_, (Below.heap_setCell W _ u _ (by show D ≠ x; omega)).trans h.def_⟩

/-- 'for y := range seq { .. }' over such an iterator: what holds between two rounds (I) minds neither the iterator's cell nor the loop's own book-keeping; each way by which the body is left keeps its word. -/
theorem range_cell {α : Type} {g : Operand} {p : Tmp} {assign body : Code} {Q : Exit → Act → World → Prop} {a : Act} {w : World}
    (hro : F.round = none) (h1 : 1 ≤ n) {gf : Nat} {lb : Array Value} (hg : a.eval g = .func (.func gf) #[] lb) (hFg : F.fn gf) (eg : ∀ args w, (callFunc gf args).run P w = .ok (.enter gf args) w)
    {enc : α → Value} {x : Nat} {Pr : List α → α → World → Prop} {Kp : World → World → Prop} {S Sp : List α → Prop} {w0 : World} (hseq : SeqCell F (n - 1) P gf lb enc x Pr Kp S Sp w0) (hx : x < w.heap.size)
    (hKt : ∀ {A B C : World}, Kp A B → Kp B C → Kp A C) (hKb : ∀ W l o, w.heap.size ≤ l → NoCells W l → Kp W (W.putObj l o)) (hb0 : Below w0.heap.size w0 w)
    (I Ix : List α → World → Prop) (hI : ∀ pre W o, I pre W → I pre (W.alloc o)) (hIp : ∀ pre W l o, w.heap.size ≤ l → NoCells W l → I pre W → I pre (W.putObj l o)) (hIc : ∀ pre W u, I pre W → I pre (W.setCell ⟨x, 0, none⟩ u)) (hIxp : ∀ pre W l o, w.heap.size ≤ l → NoCells W l → Ix pre W → Ix pre (W.putObj l o))
    (hPr : ∀ pre y W l o, w.heap.size ≤ l → NoCells W l → Pr pre y W → Pr pre y (W.putObj l o)) (h0 : I [] w) (q : Tmp)
    (hassign : ∀ (l : Nat) (y : α) (W : World) (K : Act → World → Prop), K { tmps := (a.tmps.setIfInBounds p (enc y)).setIfInBounds q (enc y), defers := [] } W → assign.wpIn (F.inRound l) (n - 1 - 1) P (Exit.then K (fun _ _ _ => False)) { tmps := a.tmps.setIfInBounds p (enc y), defers := [] } W)
    (hbody : ∀ (l : Nat) (pre : List α) (y : α) (W : World), I pre W → Pr pre y W → body.wpIn (F.inRound l) (n - 1 - 1) P (fun e _ W' => match e with | .normal => KeepsFrom w.heap.size W W' ∧ Kp W W' ∧ I (pre ++ [y]) W' | .ret => KeepsFrom w.heap.size W W' ∧ Ix (pre ++ [y]) W' | _ => False) { tmps := (a.tmps.setIfInBounds p (enc y)).setIfInBounds q (enc y), defers := [] } W)
    (hdone : ∀ (D : Nat) (xs : List α) (W : World), w.heap.size ≤ D → S xs → I xs W → W.heap[D]? = some (.deferred (some [])) → Q .normal { a with defers := { target := .collected D, args := #[] } :: a.defers } W)
    (hstop : ∀ (D : Nat) (pre : List α) (W : World), w.heap.size ≤ D → Sp pre → Ix pre W → W.heap[D]? = some (.deferred (some [])) → Code.ret.wpIn F n P Q { a with defers := { target := .collected D, args := #[] } :: a.defers } W) :
    (Code.rangeFunc g #[p] assign body).wpIn F n P Q a w := by
  refine wpIn_rangeFunc fun fn hfn => ?_
  rw [hro]
  let R : LoopState → Option Code → Loop := fun st pe => { state := st, pending := pe, fn, tmps := a.tmps, params := #[p], assign, body, defers := w.heap.size }
  refine ⟨w.heap.size + 1, [{ target := .collected w.heap.size, args := #[] }], (w.alloc (.deferred (some []))).alloc (.loop (R .ready none)), { target := .fn (.func gf) lb, args := #[.func (.yield (w.heap.size + 1)) #[] #[]] }, (w.alloc (.deferred (some []))).alloc (.loop (R .ready none)), gf,
    #[.func (.yield (w.heap.size + 1)) #[] #[]] ++ lb, (w.alloc (.deferred (some []))).alloc (.loop (R .ready none)), run_enterLoop_outer fn a.tmps #[p] assign body, ?_, ?_, ?_, fun _ => h1, ?_⟩
  · simp only [resolve, hg]
    simp [go_sem]
  · intro f' hf'
    simp only [Target.leads, Option.some.injEq] at hf'
    rw [← hf']
    exact hFg
  · simp [invoke, go_sem, eg]
  have hA : Below w.heap.size w ((w.alloc (.deferred (some []))).alloc (.loop (R .ready none))) := ((Below.refl _ _).alloc (Nat.le_refl _) _).alloc (by simp) _
  have hL0 : LoopAt (R .ready none) w.heap.size ((w.alloc (.deferred (some []))).alloc (.loop (R .ready none))) := by
    refine ⟨?_, (Below.heap_alloc _ _ _ (by simp)).trans (World.alloc_heap_new w _)⟩
    have := World.alloc_heap_new (w.alloc (.deferred (some []))) (.loop (R .ready none))
    rwa [World.size_alloc] at this
  refine (hseq (w.heap.size + 1) (fun pre W => I pre W ∧ LoopAt (R .ready none) w.heap.size W) (fun pre W => Ix pre W ∧ LoopAt (R .done (some .ret)) w.heap.size W) _ (hb0.trans (hA.mono hb0.size))
    (fun pre W u h => ⟨hIc pre W u h.1, h.2.cell hx u⟩) ?_ ⟨hI _ _ _ (hI _ _ _ h0), hL0⟩).mono ?_
  · intro pre y W h hp
    obtain ⟨hi, hl⟩ := h
    refine ⟨fn, a.tmps.setIfInBounds p (enc y), assign, body, (run_yield (args := #[enc y]) hl.rec_ (by rfl)).trans (by simp [R]), ?_⟩
    refine roundIn_of_wpIn hfn (hassign _ y W _ ?_)
    refine ⟨_, run_beginRound hl.rec_ rfl, ?_⟩
    have hl2 := hl.put (R .busy none)
    refine wpIn_mono (hbody _ pre y _ (hIp _ _ _ _ (by omega) hl.no hi) (hPr _ _ _ _ _ (by omega) hl.no hp)) ?_
    intro e a3 W3 hq
    cases e with
    | normal =>
      obtain ⟨hk, hkp, hi3⟩ := hq
      have hl3 := hl2.keep hk (Nat.le_refl _)
      exact ⟨_, _, run_endRound none hl3.rec_, .inl ⟨rfl, ⟨hIp _ _ _ _ (by omega) hl3.no hi3, hl3.put _⟩, hKt (hKt (hKb _ _ _ (by omega) hl.no) hkp) (hKb _ _ _ (by omega) hl3.no)⟩⟩
    | ret =>
      obtain ⟨hk, hi3⟩ := hq
      have hl3 := hl2.keep hk (Nat.le_refl _)
      exact ⟨_, _, run_endRound (some .ret) hl3.rec_, .inr ⟨rfl, hIxp _ _ _ _ (by omega) hl3.no hi3, hl3.put _⟩⟩
    | exit id => exact hq.elim
    | goto t => exact hq.elim
    | panic c => exact hq.elim
    | outgrown => exact hq.elim
  · rintro e W2 ⟨⟨v, rfl⟩, (⟨xs, hS, hi, hl⟩ | ⟨pre, hS, hi, hl⟩)⟩
    · exact ⟨none, _, run_endLoop hl.rec_ (by simp [R]), hdone _ xs _ (Nat.le_refl _) hS (hIp _ _ _ _ (by omega) hl.no hi) (hl.put _).def_⟩
    · exact ⟨some .ret, _, run_endLoop hl.rec_ (by simp [R]), hstop _ pre _ (Nat.le_refl _) hS (hIxp _ _ _ _ (by omega) hl.no hi) (hl.put _).def_⟩
end Go.Dol

namespace Go.Dol
open Go.RowKit
set_option linter.unusedVariables false
/-- Bytes, 64 by 64; of none one chunk of none. -/
def chunksG (l : List UInt8) : List (List UInt8) := if h : l.length = 0 then [] else l.take 64 :: chunksG (l.drop 64)
termination_by l.length
decreasing_by simp only [List.length_drop]; omega
def chunksOf (l : List UInt8) : List (List UInt8) := if l.length = 0 then [[]] else chunksG l
/-- What is to be told still. -/
def restOf (first : Bool) (l : List UInt8) : List (List UInt8) := if first = true then chunksOf l else chunksG l
theorem restOf_next {first : Bool} {l : List UInt8} (h : first = true ∨ 0 < l.length) : restOf first l = l.take 64 :: restOf false (l.drop 64) := by
  have hG : 0 < l.length → chunksG l = l.take 64 :: chunksG (l.drop 64) := fun h => by rw [chunksG, dif_neg (by omega)]
  cases first with
  | true =>
    simp only [restOf, if_true, Bool.false_eq_true, if_false]
    unfold chunksOf
    by_cases h0 : l.length = 0
    · rw [if_pos h0, List.eq_nil_of_length_eq_zero h0]
      have : chunksG ([] : List UInt8) = [] := by rw [chunksG]; rfl
      simp [this]
    · rw [if_neg h0]
      exact hG (by omega)
  | false =>
    rcases h with h | h
    · cases h
    · simp only [restOf, Bool.false_eq_true, if_false]
      exact hG h
theorem restOf_end {l : List UInt8} (h : l.length = 0) : restOf false l = [] := by
  unfold restOf
  rw [if_neg (by decide), chunksG, dif_pos h]
/-- A chunk, with the slice that it is. -/
structure Chunk where
  l : List UInt8
  A : Option Addr
  c : Nat
def Chunk.val (y : Chunk) : Value := .slice y.A y.l.length y.c
/-- How much a slice in a cell holds still. -/
def lenC (x : Nat) (W : World) : Nat := lenV ((W.cell? ⟨x, 0, none⟩).getD undef)
def flagN : Value → Nat
  | .bool true => 1
  | _ => 0
end Go.Dol
namespace Go.Proofs.YtecpbcmpncgokaaGreat
open Go.RowKit Go.Dol Go.Shelf
attribute [local go_sem] Oper.semAt_some
set_option linter.unusedVariables false

/-- What is said of a chunk when it is told. -/
def ChPr (b : List UInt8) (B : Nat) (pre : List Chunk) (y : Chunk) (W : World) : Prop := y.l.length ≤ 64 ∧ Far W B y.A y.l ∧ y.l.length ≤ y.c ∧ y.c ≤ maxLen ∧ ∃ r, chunksOf b = pre.map (·.l) ++ y.l :: r
/-- What a round must keep. -/
def ChK (B x : Nat) (W W' : World) : Prop := (∀ u, Blk W x 36 [u] → Blk W' x 36 [u]) ∧ ∀ A l, Far W B A l → Far W' B A l
def ChRel (b : List UInt8) (B x : Nat) (J : List Chunk → World → Prop) (f : Value) (wr : World) : Prop :=
  ∃ (first : Bool) (pre : List Chunk) (q : List UInt8) (A : Option Addr) (c : Nat), f = .bool first ∧ Blk wr x 36 [.slice A q.length c] ∧ Far wr B A q ∧ q.length ≤ c ∧ c ≤ maxLen ∧ Hid (J pre wr) ∧ Hid (chunksOf b = pre.map (·.l) ++ restOf first q)

set_option maxRecDepth 100000 in
set_option maxHeartbeats 1600000 in
theorem chunks_seq (F : Fence) (n : Nat) (hF : F.fn 235) (hro : F.round = none) (hn : 1 ≤ n) (x B : Nat) (b : List UInt8) (A : Option Addr) (c : Nat) (w : World) (hX : Blk w x 36 [.slice A b.length c]) (hf : Far w B A b) (hc : b.length ≤ c) (hcm : c ≤ maxLen) (hBx : B ≤ x) :
    SeqCell F n Tryz.prog 235 #[.pointer (some ⟨x, 0, none⟩)] Chunk.val x (ChPr b B) (ChK B x) (fun xs => xs.map (·.l) = chunksOf b) (fun pre => ∃ r, chunksOf b = pre.map (·.l) ++ r) w := by
  intro l J Jx W hW hJc hY h0
  have hX0 := hX.below hW hX.lt
  have hf0 := hf.below hW
  have HJ := Lib.hid h0
  clear hX hf h0 hW
  refine callsIn_of_wp Tryz.func235 rfl hF ?_ hro
  simp only [Tryz.ntmps235, List.size_toArray, List.length_cons, List.length_nil, Nat.reduceAdd, Nat.reduceSub, Array.replicate_succ, Array.replicate_zero, List.push_toArray, List.append_toArray, List.nil_append, List.cons_append]
  gi_wp2
  gi_loopw [3] (fun f wr => ChRel b B x J f wr) (fun f wr => lenC x wr + flagN f)
  case atStart => exact ⟨true, [], b, A, c, rfl, hX0, hf0, hc, hcm, HJ, Lib.hid (by simp [restOf])⟩
  case round =>
    clear hX0 hf0 HJ
    obtain ⟨first, pre, q, A2, c2, rfl, hX2, hf2, hc2, hcm2, hJ2, hR2⟩ := hrel
    have k0 : wr.cell? ⟨x, 0, none⟩ = some (.slice A2 q.length c2) := by rw [hX2.cell]; rfl
    by_cases hgo : first = true ∨ 0 < q.length
    · obtain ⟨k, hk⟩ : ∃ k, k = min q.length 64 := ⟨_, rfl⟩
      have hkI : min (q.length : Int) 64 = (k : Nat) := by omega
      have hkq : k ≤ q.length := by omega
      obtain ⟨mm, em, jm, jm', ⟨rm, km, km'⟩, _, sm⟩ := sl_to (k := k) (min (q.length : Int) 64) hkI hf2.1 hkq hc2 hcm2
      obtain ⟨q', A', c', eq, jq, jq', hq', _, sq, _, sn⟩ := sl_from (k := k) (min (q.length : Int) 64) hkI hf2.1 hkq hc2 hcm2
      have et : q.take k = q.take 64 := by
        by_cases h6 : q.length ≤ 64
        · rw [List.take_of_length_le (by omega), List.take_of_length_le h6]
        · rw [show k = 64 by omega]
      have ed : q.drop k = q.drop 64 := by
        by_cases h6 : q.length ≤ 64
        · rw [List.drop_eq_nil_of_le (by omega), List.drop_eq_nil_of_le h6]
        · rw [show k = 64 by omega]
      have hnext := restOf_next hgo
      have hP : ChPr b B pre ⟨mm, A2, c2⟩ wr := by
        refine ⟨by show mm.length ≤ 64; omega, hf2.piece (k := 0) ⟨rm, km, km'⟩ (Nat.le_refl _) (by show mm.length + 0 ≤ q.length; omega) rfl, km, km', restOf false (q.drop 64), ?_⟩
        rw [hR2.out, hnext]
        show pre.map (·.l) ++ q.take 64 :: _ = pre.map (·.l) ++ mm :: _
        rw [em.out, et]
      obtain ⟨fn, tmps, assign, body, hy, hRn⟩ := hY pre ⟨mm, A2, c2⟩ wr hJ2.out hP
      change (Instr.yield l #[.slice A2 mm.length c2]).run Tryz.prog wr = .ok (.round l fn tmps assign body) wr at hy
      have hfq : Far wr B A' q' := hf2.piece (k := 0) hq' (Nat.le_refl _) (by omega) sq
      have hmeas : (first = true → True) ∧ q'.length + flagN (.bool false) < q.length + flagN (.bool first) := by
        refine ⟨fun _ => trivial, ?_⟩
        rcases hgo with rfl | hgo
        · simp only [flagN]; omega
        · have h6 : q'.length < q.length := by rw [eq.out, List.length_drop]; omega
          cases first <;> simp only [flagN] <;> omega
      have hT : Hid (chunksOf b = (pre ++ [(⟨mm, A2, c2⟩ : Chunk)]).map (·.l) ++ restOf false q') := by
        unfold Hid
        rw [hR2.out, hnext, eq.out, ed, List.map_append]
        simp only [List.map_cons, List.map_nil, List.append_assoc, List.cons_append, List.nil_append]
        rw [em.out, et]
      have hEQ := Lib.hid hk
      clear hk hkI et ed hnext hP
      cases first with
      | true =>
        clear hgo
        gi_wp2
        refine hRn.mono ?_
        rintro e W3 (⟨rfl, hJ3, hk3⟩ | ⟨rfl, hJx3⟩)
        · have hX3 := hk3.1 _ hX2
          have hf4 := hk3.2 _ _ hfq
          have e0 : W3.cell? ⟨x, 0, none⟩ = some (.slice A2 q.length c2) := by rw [hX3.cell]; rfl
          have z0 := hX3.free 0
          gi_wp2
          have hX4 := hX3.set 0 (.slice A' q'.length c')
          refine ⟨⟨false, pre ++ [⟨mm, A2, c2⟩], q', A', c', rfl, hX4, ?_, hq'.2.1, hq'.2.2, Lib.hid (hJc _ _ _ hJ3), hT⟩, ?_⟩
          · exact hf4.keep (grown_setCell (World.grownBy.refl W3 _) 0 _) (Other.blk hX3 (by decide) hBx)
          · have e1 : lenC x wr = q.length := by unfold lenC; rw [k0]; rfl
            have e2 : lenC x (W3.setCell ⟨x, 0, none⟩ (.slice A' q'.length c')) = q'.length := by unfold lenC; rw [hX4.cell]; rfl
            rw [e1, e2]
            exact hmeas.2
        · gi_wp2
          refine bodyPost_ret (results_none (by rfl) _ _ _) rfl ?_
          exact ⟨⟨_, rfl⟩, .inr ⟨pre ++ [⟨mm, A2, c2⟩], ⟨_, hT.out⟩, hJx3⟩⟩
      | false =>
        have d0 : 0 < q.length := hgo.resolve_left (by decide)
        have d1 : decide ((q.length : Int) > 0) = true := decide_eq_true (by omega)
        have d2 : decide ((0 : Int) < (q.length : Int)) = true := decide_eq_true (by omega)
        have d3 : decide (0 < q.length) = true := decide_eq_true d0
        clear hgo
        gi_wp2
        refine hRn.mono ?_
        rintro e W3 (⟨rfl, hJ3, hk3⟩ | ⟨rfl, hJx3⟩)
        · have hX3 := hk3.1 _ hX2
          have hf4 := hk3.2 _ _ hfq
          have e0 : W3.cell? ⟨x, 0, none⟩ = some (.slice A2 q.length c2) := by rw [hX3.cell]; rfl
          have z0 := hX3.free 0
          gi_wp2
          have hX4 := hX3.set 0 (.slice A' q'.length c')
          refine ⟨⟨false, pre ++ [⟨mm, A2, c2⟩], q', A', c', rfl, hX4, ?_, hq'.2.1, hq'.2.2, Lib.hid (hJc _ _ _ hJ3), hT⟩, ?_⟩
          · exact hf4.keep (grown_setCell (World.grownBy.refl W3 _) 0 _) (Other.blk hX3 (by decide) hBx)
          · have e1 : lenC x wr = q.length := by unfold lenC; rw [k0]; rfl
            have e2 : lenC x (W3.setCell ⟨x, 0, none⟩ (.slice A' q'.length c')) = q'.length := by unfold lenC; rw [hX4.cell]; rfl
            rw [e1, e2]
            exact hmeas.2
        · gi_wp2
          refine bodyPost_ret (results_none (by rfl) _ _ _) rfl ?_
          exact ⟨⟨_, rfl⟩, .inr ⟨pre ++ [⟨mm, A2, c2⟩], ⟨_, hT.out⟩, hJx3⟩⟩
    · obtain rfl : first = false := by cases first with | true => exact absurd (.inl rfl) hgo | false => rfl
      have hq0 : Hid (q.length = 0) := by unfold Hid; omega
      have d1 : decide ((q.length : Int) > 0) = false := decide_eq_false (by omega)
      have d2 : decide ((0 : Int) < (q.length : Int)) = false := decide_eq_false (by omega)
      have d3 : decide (0 < q.length) = false := decide_eq_false (by omega)
      clear hgo
      gi_wp2
      go_end0
      refine ⟨⟨_, rfl⟩, .inl ⟨pre, ?_, hJ2.out⟩⟩
      have h1 := hR2.out
      rw [restOf_end hq0.out, List.append_nil] at h1
      exact h1.symm
end Go.Proofs.YtecpbcmpncgokaaGreat
namespace Go.Dol
open Go.RowKit
set_option linter.unusedVariables false
/-- The name of what is laid first. -/
def shd (n : ByteArray) : ByteArray := n ++ ⟨#[126]⟩
def endsT (n : ByteArray) : Bool := decide (n.data.toList.getLast? = some 126)
/-- Chunks are laid one behind the other, until one is refused. -/
def appAll (D : Dk) (s : ByteArray) : List (List UInt8) → Int × Dk
  | [] => (0, D)
  | c :: r => if (appD D s c).1 ≠ 0 then appD D s c else appAll (appD D s c).2 s r
def lstD (D : Dk) (n : ByteArray) : Int × Dk := if (syncD D (shd n)).1 ≠ 0 then syncD D (shd n) else renD (syncD D (shd n)).2 (shd n) n
def laidD (D : Dk) (n : ByteArray) (b : List UInt8) : Int × Dk := if (appAll D (shd n) (chunksOf b)).1 ≠ 0 then appAll D (shd n) (chunksOf b) else lstD (appAll D (shd n) (chunksOf b)).2 n
def tailD (D : Dk) (n : ByteArray) (b : List UInt8) : Int × Dk := if frD D < 16 + ((n.size : Int) + 1) + b.length then (4, D) else laidD D n b
def saveD (D : Dk) (n : ByteArray) (b : List UInt8) : Int × Dk :=
  if nameB (shd n) = false ∨ n.size = 0 ∨ endsT n = true then (1, D) else if D.dark = true then (5, D) else
    if (lookF D.l (shd n)).isSome = true then (if (remD D (shd n)).1 ≠ 0 then remD D (shd n) else tailD (remD D (shd n)).2 n b) else tailD D n b

theorem appAll_cons (D : Dk) (s : ByteArray) (c : List UInt8) (r : List (List UInt8)) : appAll D s (c :: r) = if (appD D s c).1 ≠ 0 then appD D s c else appAll (appD D s c).2 s r := rfl
theorem shd_size (n : ByteArray) : (shd n).size = n.size + 1 := by
  unfold shd
  rw [ByteArray.size_append]
  rfl
theorem OkD.all {D : Dk} (h : OkD D) (s : ByteArray) : ∀ l, OkD (appAll D s l).2
  | [] => h
  | c :: r => by
    unfold appAll
    split
    · exact h.app s c
    · exact (h.app s c).all s r
theorem OkD.last {D : Dk} (h : OkD D) (n : ByteArray) : OkD (lstD D n).2 := by
  unfold lstD
  split
  · exact h.sync _
  · exact (h.sync _).ren _ _
theorem OkD.laid {D : Dk} (h : OkD D) (n : ByteArray) (b : List UInt8) : OkD (laidD D n b).2 := by
  unfold laidD
  split
  · exact h.all _ _
  · exact (h.all _ _).last n
theorem OkD.tail {D : Dk} (h : OkD D) (n : ByteArray) (b : List UInt8) : OkD (tailD D n b).2 := by
  unfold tailD
  split
  · exact h
  · exact h.laid n b
theorem OkD.save {D : Dk} (h : OkD D) (n : ByteArray) (b : List UInt8) : OkD (saveD D n b).2 := by
  unfold saveD
  split
  · exact h
  · split
    · exact h
    · split
      · split
        · exact h.rem _
        · exact (h.rem _).tail n b
      · exact h.tail n b
/-- Chunks that were laid so far, and one more. -/
theorem appAll_snoc {D : Dk} {s : ByteArray} {l : List (List UInt8)} {c : List UInt8} (h : (appAll D s l).1 = 0) : appAll D s (l ++ [c]) = appD (appAll D s l).2 s c := by
  induction l generalizing D with
  | nil =>
    show (if (appD D s c).1 ≠ 0 then appD D s c else (0, (appD D s c).2)) = appD D s c
    split
    · rfl
    · rename_i h1
      have h2 : (appD D s c).1 = 0 := Decidable.not_not.1 h1
      rw [← h2]
  | cons d r ih =>
    rw [List.cons_append, appAll_cons]
    rw [appAll_cons] at h ⊢
    by_cases h1 : (appD D s d).1 ≠ 0
    · rw [if_pos h1] at h
      exact absurd h h1
    · rw [if_neg h1] at h
      rw [if_neg h1, if_neg h1]
      exact ih h
/-- Where one was refused no more are laid. -/
theorem appAll_stop {D : Dk} {s : ByteArray} {l r : List (List UInt8)} (h : (appAll D s l).1 ≠ 0) : appAll D s (l ++ r) = appAll D s l := by
  induction l generalizing D with
  | nil => exact absurd rfl h
  | cons d q ih =>
    rw [List.cons_append, appAll_cons]
    rw [appAll_cons] at h ⊢
    by_cases h1 : (appD D s d).1 ≠ 0
    · rw [if_pos h1, if_pos h1]
    · rw [if_neg h1] at h
      rw [if_neg h1, if_neg h1]
      exact ih h
end Go.Dol
namespace Go.Dol
open Go.RowKit Go.MapKept Go.Maps
open Go.WideElems (Fit rd rg)
set_option linter.unusedVariables false
/-- A map that is known by its entries, as the library's laws want it. -/
theorem MapL.owns {P : Program} {k : TypeId} {w : World} {B : Nat} {al : List (Value × Value)} (hk : P.underlying k = some .string) (h : MapL P k w B al) (hl : al.length ≤ maxLen) :
    ∃ D0 : DataW Unit, w.ownsMap P k (fun _ => some (.nil, [])) B al.length D0 ∧ Maps.size D0 = al.length ∧ ∀ ns : List ByteArray, al.map Prod.fst = ns.map Value.string → (strKeys D0).Perm (ns.map fun n => n.data.toList) := by
  obtain ⟨es, clock, hb, hS, hK, hal⟩ := h
  have hlen : es.toList.length = al.length := by rw [← hal, List.length_map]
  have hsz : es.size = al.length := by rw [← hlen, Array.length_toList]
  have hp := WideShapes.sorted_perm (H := Unit) (es.toList.map (rg P k fun _ => some (.nil, [])))
  refine ⟨_, ⟨es, clock, hb, ⟨by omega, hS, fun x hx => ?_⟩, by omega, rfl⟩, ?_, fun ns hns => ?_⟩
  · obtain ⟨l, hl⟩ := hK x hx
    exact ⟨(l, .nil), by simp [rd, hl]⟩
  · rw [size_eq, hp.length_eq, List.length_map, hlen]
  · show (((es.toList.map (rg P k fun _ => some (.nil, []))).foldr DataW.insert []).map fun p => strOf p.1).Perm _
    refine (hp.map _).trans ?_
    rw [List.map_map]
    have e : es.toList.map ((fun p => strOf p.1) ∘ rg P k fun _ => some ((.nil : DataW Unit), [])) = ns.map fun n => n.data.toList := by
      have h1 : es.toList.map (fun e => e.key) = ns.map Value.string := by
        rw [← hns, ← hal, List.map_map]
        rfl
      have h2 : ∀ (l : List MapEntry) (m : List ByteArray), (∀ x ∈ l, ∃ t, keyOf P k x.key = some t) → l.map (fun e => e.key) = m.map Value.string → l.map ((fun p => strOf p.1) ∘ rg P k fun _ => some ((.nil : DataW Unit), [])) = m.map fun n => n.data.toList := by
        intro l
        induction l with
        | nil =>
          intro m _ hm
          cases m with
          | nil => rfl
          | cons a b => cases hm
        | cons x r ih =>
          intro m hx hm
          cases m with
          | nil => cases hm
          | cons a b =>
            simp only [List.map_cons, List.cons.injEq] at hm ⊢
            refine ⟨?_, ih b (fun y hy => hx y (List.mem_cons_of_mem _ hy)) hm.2⟩
            obtain ⟨t, ht⟩ := hx x (List.mem_cons_self ..)
            obtain ⟨s, hs1, hs2, _⟩ := Maps.keyOf_str hk ht
            have hv : a = ⟨s.toArray⟩ := by
              have := hm.1.symm.trans hs1
              injection this
            simp only [Function.comp, rg, rd, ht, hs2, Option.bind_some, Option.map_some, Option.getD_some, strOf]
            rw [hv]
      exact h2 _ _ hK h1
    rw [e]
end Go.Dol
namespace Go.Dol
open Go.RowKit
set_option linter.unusedVariables false
def idS (l : List UInt8) : ByteArray := ⟨l.toArray⟩
end Go.Dol
namespace Go.Proofs.YtecpbcmpncgokaaGreat
open Go.RowKit Go.Dol
set_option linter.unusedVariables false
section
variable {w w' : World} {base g : Nat} {A : Option Addr} {c m : Nat} {d : Int} {vi : Value}
/-- What Get hands back. -/
def RetGet (w : World) (r : Except Int (List UInt8)) (e : Ending) (w' : World) : Prop :=
  Below w.heap.size w w' ∧ match r with
    | .error k => e = .returned (.tuple #[.slice none 0 0, .int .i64 k])
    | .ok p => ∃ (q : List UInt8) (A : Option Addr) (c : Nat), Hid (q = p) ∧ e = .returned (.tuple #[.slice A q.length c, .int .i64 0]) ∧ w'.ownsRow w.heap.size 5 1 (.slice A q.length c) q.length (bc q) ∧ q.length ≤ c ∧ c ≤ maxLen
end
end Go.Proofs.YtecpbcmpncgokaaGreat
namespace Go.Dol
set_option linter.unusedVariables false
/-- The name of an id's file. -/
def nameO (id : ByteArray) : ByteArray := ⟨#[111, 47]⟩ ++ ⟨(hexOf id.data.toList).toArray⟩
theorem nameO_toList (id : ByteArray) : (nameO id).data.toList = 111 :: 47 :: hexOf id.data.toList := by
  unfold nameO
  rw [ByteArray.data_append]
  simp
theorem nameO_size (id : ByteArray) : (nameO id).size = 2 + 2 * id.size := by
  have h := congrArg List.length (nameO_toList id)
  rw [List.length_cons, List.length_cons, hexOf_length] at h
  have h1 : (nameO id).data.toList.length = (nameO id).size := by rw [Array.length_toList]; rfl
  have h2 : id.data.toList.length = id.size := by rw [Array.length_toList]; rfl
  omega
theorem nameO_inj {a b : ByteArray} (h : nameO a = nameO b) : a = b := by
  have h1 := nameO_toList a
  rw [h, nameO_toList b] at h1
  injection h1 with _ h1
  injection h1 with _ h1
  exact ba_ext (hexOf_inj h1).symm
/-- The bytes of an id. 1: it is none; 6: there is no such object; 2: the file is spoilt. -/
def getO (ge : ByteArray → ByteArray → Bool) (D : Dk) (id : ByteArray) : Except Int (List UInt8) :=
  if id.size ≠ 32 then .error 1 else match lookF D.l (nameO id) with
    | none => .error 6
    | some b => match openL b 2097152 with
      | none => .error 2
      | some raw => if sumOf raw = id.data.toList ∧ isObjL ge raw = true then .ok raw else .error 2
def idO (raw : List UInt8) : ByteArray := idS (sumOf raw)
theorem idO_size (raw : List UInt8) : (idO raw).size = 32 := by
  show (sumOf raw).toArray.size = 32
  rw [List.size_toArray, sumOf_length]
/-- What keeping an object does. -/
def putO (ge : ByteArray → ByteArray → Bool) (D : Dk) (raw : List UInt8) : Except Int ByteArray × Dk :=
  if isObjL ge raw = false then (.error 1, D) else
  match getO ge D (idO raw) with
  | .ok b => if b = raw then (.ok (idO raw), D) else (.error 7, D)
  | .error k => if k = 2 then (.error 2, D) else
    if (saveD D (nameO (idO raw)) (pressL raw)).1 ≠ 0 then (.error (saveD D (nameO (idO raw)) (pressL raw)).1, (saveD D (nameO (idO raw)) (pressL raw)).2) else (.ok (idO raw), (saveD D (nameO (idO raw)) (pressL raw)).2)
def dropO (D : Dk) (id : ByteArray) : Int × Dk := if id.size ≠ 32 then (1, D) else if (lookF D.l (nameO id)).isSome = true then remD D (nameO id) else (6, D)
/-- The id that a file is called by. -/
def idOfN (n : ByteArray) : Option ByteArray :=
  match n.data.toList with
  | 111 :: 47 :: t => match unhexL t with
    | none => none
    | some q => if q.length = 32 then some (idS q) else none
  | _ => none
def idsO (D : Dk) : List ByteArray := (D.l.map (·.1)).filterMap idOfN
end Go.Dol
namespace Go.Proofs.YtecpbcmpncgokaaGreat
open Go.RowKit Go.Dol
set_option linter.unusedVariables false
end Go.Proofs.YtecpbcmpncgokaaGreat
namespace Go.Dol
theorem costs_len (l : List Fil) : 16 * (l.length : Int) ≤ costs l := by
  induction l with
  | nil => exact Int.le_refl _
  | cons f r ih =>
    have := costF_pos f
    simp only [costs, List.length_cons]
    omega
end Go.Dol
namespace Go.Dol
open Go.RowKit
set_option linter.unusedVariables false
/-- A disk whose files are in order and fit memory. -/
structure OkL (D : Dk) : Prop where
  ord : InOrder D.l
  cap0 : 0 ≤ D.cap
  cap1 : D.cap ≤ 1099511627776
  names : ∀ f ∈ D.l, nameB f.1 = true
  len : D.l.length ≤ 3518437208880
  small : ∀ f ∈ D.l, f.2.length ≤ 140737488355328
theorem OkW.toL {D : Dk} (h : OkW D) : OkL D := ⟨h.ord, h.cap0, h.cap1, h.names, h.len, fun f hf => by have := h.bytes f hf; omega⟩
end Go.Dol
namespace Go.Proofs.YtecpbcmpncgokaaGreat
open Go.RowKit Go.Dol
end Go.Proofs.YtecpbcmpncgokaaGreat
