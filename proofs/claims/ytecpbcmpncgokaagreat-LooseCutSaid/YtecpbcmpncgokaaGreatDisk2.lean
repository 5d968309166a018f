/- What layer 'pack' computes, in plain Lean: how each object is kept behind the one ahead, a pack's bytes, and which pack bytes are. No program is in sight. Conditions: none. A map of the call's own: an entry is taken away; what turns two blocks alone. Conditions: none beyond what each law names. What the layer 'disk' computes, in plain Lean: files in order of their names; what is laid, taken away, renamed; room. No program is in sight. Conditions: none beyond what each lemma names. The layer 'disk': how a disk lies in memory, and what its map of files answers. Conditions: none beyond what each law names. The walks of the layer 'disk', its first part: which names may be. Conditions: lengths below 2^47. -/
import Derived.Test.YtecpbcmpncgokaaGreatSumA
import Derived.Test.YtecpbcmpncgokaaGreatPressA
import Derived.Test.YtecpbcmpncgokaaGreatCodeA
import Derived.Test.YtecpbcmpncgokaaGreatWordsA
import Derived.Deep.QuietTactic
import Derived.BigQuiet
import Derived.Test.YtecpbcmpncgokaaGreatObjA
import Derived.Laws.Cover1
import Derived.StringKeys
import Derived.Test.YtecpbcmpncgokaaGreatShelfA
namespace Go.Dol
set_option linter.unusedVariables false

/-- Are bytes an object's? -/
def isObjL (ge : ByteArray → ByteArray → Bool) (raw : List UInt8) : Bool := (decO ge raw).isSome
/-- What opens is not much longer than what it opens to: each token takes one byte at least of what is told. -/
theorem openF_len (size : Nat) : ∀ (f : Nat) (out p r : List UInt8), openF size f out p = some r → out.length ≤ size → p.length ≤ 19 * (size - out.length) ∧ r.length = size
  | f, out, [], r, h, ho => by
    have h' : (if out.length = size then some out else none) = some r := by cases f <;> exact h
    split at h'
    · rename_i e; injection h' with h'; subst h'; exact ⟨by simp, e⟩
    · cases h'
  | 0, out, c :: q, r, h, ho => by cases h
  | f + 1, out, c :: q, r, h, ho => by
    unfold openF at h
    cases ht : takeNum (c :: q) with
    | none => rw [ht] at h; cases h
    | some x =>
      obtain ⟨t, rest⟩ := x
      have h9 := num_takeNum ht
      have hn := num_length_le 8 t (by have := h9.2; unfold mostNum at this; omega)
      have hlen : (c :: q).length = (num t).length + rest.length := by rw [h9.1, List.length_append]
      rw [ht] at h
      simp only at h
      split at h
      · split at h
        · rename_i h2
          have := openF_len size f _ _ _ h (by rw [List.length_append, List.length_take]; omega)
          rw [List.length_append, List.length_take, List.length_drop] at this
          omega
        · cases h
      · cases hd : takeNum rest with
        | none => rw [hd] at h; cases h
        | some y =>
          obtain ⟨d, rest2⟩ := y
          have h8 := num_takeNum hd
          have hm := num_length_le 8 d (by have := h8.2; unfold mostNum at this; omega)
          have hlen2 : rest.length = (num d).length + rest2.length := by rw [h8.1, List.length_append]
          rw [hd] at h
          simp only at h
          split at h
          · rename_i h2
            have := openF_len size f _ _ _ h (by rw [copyN_length]; omega)
            rw [copyN_length] at this
            omega
          · cases h
theorem openL_len {p r : List UInt8} {most : Int} (h : openL p most = some r) : p.length ≤ 19 * r.length + 9 ∧ (r.length : Int) ≤ most := by
  unfold openL at h
  cases ht : takeNum p with
  | none => rw [ht] at h; cases h
  | some x =>
    obtain ⟨size, rest⟩ := x
    have h9 := num_takeNum ht
    have hn := num_length_le 8 size (by have := h9.2; unfold mostNum at this; omega)
    have hlen : p.length = (num size).length + rest.length := by rw [h9.1, List.length_append]
    rw [ht] at h
    simp only at h
    split at h
    · rename_i h2
      have := openF_len size _ [] rest r h (by simp)
      simp only [List.length_nil] at this
      omega
    · cases h
end Go.Dol
namespace Go.Dol
open Go.RowKit Go.MapKept
open Go.Maps (Keyed)
open Go.ChangeMaps (setBlock heap_setBlock_same heap_setBlock_other modify_eq_set)
set_option linter.unusedVariables false

/-- What becomes of the entries where a key is taken away. -/
def MDel (al : List (Value × Value)) (key : Value) (al' : List (Value × Value)) : Prop :=
  ((∀ p ∈ al, p.1 ≠ key) ∧ al' = al) ∨ ∃ l r v0, al = l ++ (key, v0) :: r ∧ al' = l ++ r

section
variable {P : Program} {k e t : TypeId} {w w' : World} {B : Nat} {al : List (Value × Value)}
/-- 'delete(m, k)'. -/
theorem MapL.drop (h : MapL P k w B al) (K : Keyed P k) (ht : P.underlying t = some (.map k e)) {key : Value} {kl : Lit} (hkey : keyOf P k key = some kl) (ty : TypeId) :
    ∃ al' w', (Builtin.delete_ #[t, k] ty #[.map (some B), key]).run P w = .ok (.tuple #[]) w' ∧ MapL P k w' B al' ∧ MDel al key al' ∧ w.grownBy w' (some B) := by
  obtain ⟨es, clock, hb, hs, hk, rfl⟩ := h
  rcases K.find w hkey es.toList hk with ⟨h1, h2⟩ | ⟨j, e0, h1, h2, h3⟩
  · refine ⟨_, setBlock w B (.map es clock), ?_, ⟨es, clock, heap_setBlock_same hb _, hs, hk, rfl⟩, .inl ⟨?_, rfl⟩, grown_setBlock hb _⟩
    · simp [Builtin.delete_, run_underlying ht, MapKept.run_getObj_map hb, K.check w _ hkey, h1, MapKept.run_setObj_map _ hb, Result.andThen, setBlock]
    · intro p hp
      obtain ⟨x, hx, rfl⟩ := List.mem_map.1 hp
      exact h2 x hx
  · have hjl : j < es.toList.length := (List.getElem?_eq_some_iff.1 h2).1
    have hjs : j < es.size := by simpa using hjl
    have hsub : (es.eraseIdxIfInBounds j).toList = es.toList.eraseIdx j := by
      unfold Array.eraseIdxIfInBounds
      rw [dif_pos hjs]
      simp
    refine ⟨_, setBlock w B (.map (es.eraseIdxIfInBounds j) clock), ?_, ⟨es.eraseIdxIfInBounds j, clock, heap_setBlock_same hb _, stamped_erase hs j, ?_, rfl⟩, .inr ⟨(es.toList.take j).map (fun e => (e.key, e.val)), (es.toList.drop (j + 1)).map (fun e => (e.key, e.val)), e0.val, ?_, ?_⟩, grown_setBlock hb _⟩
    · simp [Builtin.delete_, run_underlying ht, MapKept.run_getObj_map hb, K.check w _ hkey, h1, MapKept.run_setObj_map _ hb, Result.andThen, setBlock]
    · intro x hx
      rw [hsub] at hx
      exact hk x ((List.eraseIdx_sublist _ _).subset hx)
    · have := List.take_append_drop j es.toList
      rw [List.drop_eq_getElem_cons hjl, (List.getElem?_eq_some_iff.1 h2).2] at this
      rw [← h3]
      conv => lhs; rw [← this]
      simp
    · rw [hsub, List.eraseIdx_eq_take_drop_succ]
      simp
end

/-- 'w' is w but for two blocks, and new blocks. -/
structure Tw (w w' : World) (g m : Nat) : Prop where
  os : w'.os = w.os
  tape : w'.tape = w.tape
  output : w'.output = w.output
  size : w.heap.size ≤ w'.heap.size
  block : ∀ i, i < w.heap.size → i ≠ g → i ≠ m → w'.heap[i]? = w.heap[i]?
section
variable {w w1 w' : World} {g m B : Nat}
theorem Tw.refl (w : World) (g m : Nat) : Tw w w g m := ⟨rfl, rfl, rfl, Nat.le_refl _, fun _ _ _ _ => rfl⟩
theorem Tw.step (h : Tw w w1 g m) (h2 : Tw w1 w' g m) : Tw w w' g m :=
  ⟨h2.os.trans h.os, h2.tape.trans h.tape, h2.output.trans h.output, Nat.le_trans h.size h2.size, fun i hi h3 h4 => (h2.block i (Nat.lt_of_lt_of_le hi h.size) h3 h4).trans (h.block i hi h3 h4)⟩
theorem Tw.grown (h : w.grownBy w' (some g)) : Tw w w' g m := ⟨h.os, h.tape, h.output, h.size, fun i hi h1 _ => h.block i hi (fun e => h1 (by injection e))⟩
theorem Tw.grownM (h : w.grownBy w' (some m)) : Tw w w' g m := ⟨h.os, h.tape, h.output, h.size, fun i hi _ h1 => h.block i hi (fun e => h1 (by injection e))⟩
theorem Tw.below (h : Below w.heap.size w w') : Tw w w' g m := ⟨h.os, h.tape, h.output, h.size, fun i hi _ _ => h.block i hi⟩
theorem Tw.toBelow (h : Tw w w' g m) (hg : B ≤ g) (hm : B ≤ m) (hB : B ≤ w.heap.size) : Below B w w' :=
  ⟨h.os, h.tape, h.output, h.size, fun k hk => h.block k (by omega) (by omega) (by omega)⟩
/-- What turns new blocks alone turns nothing. -/
theorem Tw.new {w0 : World} (h0 : Below w0.heap.size w0 w) (h : Tw w w' g m) (hg : w0.heap.size ≤ g) (hm : w0.heap.size ≤ m) : Below w0.heap.size w0 w' := h0.trans (h.toBelow hg hm h0.size)
theorem Tw.drew (h : Tw w w' g m) : Tw w w'.drew g m := ⟨h.os, h.tape, h.output, h.size, h.block⟩
end
end Go.Dol
namespace Go.Dol
open Go.RowKit
set_option linter.unusedVariables false

/-- A file: its name, its bytes. -/
abbrev Fil := ByteArray × List UInt8
/-- Names' order. -/
def sLt (a b : ByteArray) : Bool := decide (a.data.toList < b.data.toList)
theorem ba_ext {a b : ByteArray} (h : a.data.toList = b.data.toList) : a = b := by
  cases a; cases b
  congr 1
  exact Array.toList_inj.1 h
theorem sLt_irrefl (a : ByteArray) : sLt a a = false := by
  unfold sLt
  exact decide_eq_false (List.lt_irrefl _)
theorem sLt_trans {a b c : ByteArray} (h1 : sLt a b = true) (h2 : sLt b c = true) : sLt a c = true := by
  unfold sLt at *
  exact decide_eq_true (List.lt_trans (of_decide_eq_true h1) (of_decide_eq_true h2))
theorem sLt_total {a b : ByteArray} (h1 : sLt a b = false) (hne : a ≠ b) : sLt b a = true := by
  unfold sLt at *
  have h := of_decide_eq_false h1
  refine decide_eq_true ?_
  rcases Decidable.em (b.data.toList < a.data.toList) with hb | hb
  · exact hb
  · exact absurd (ba_ext (List.le_antisymm (List.not_lt.1 hb) (List.not_lt.1 h))) hne
theorem sLt_asymm {a b : ByteArray} (h1 : sLt a b = true) : sLt b a = false := by
  cases h : sLt b a with
  | false => rfl
  | true =>
    have := sLt_trans h1 h
    rw [sLt_irrefl] at this
    cases this
theorem sLt_ne {a b : ByteArray} (h1 : sLt a b = true) : a ≠ b := by
  rintro rfl
  rw [sLt_irrefl] at h1
  cases h1

/-- May a name be? -/
def nameB (s : ByteArray) : Bool := decide (1 ≤ s.size) && decide (s.size ≤ 200) && !s.data.toList.contains 0

/-- A file's bytes; where it would be; with other bytes, or laid there; gone. -/
def lookF : List Fil → ByteArray → Option (List UInt8)
  | [], _ => none
  | f :: r, n => if sLt f.1 n = true then lookF r n else if f.1 = n then some f.2 else none
def putF : List Fil → ByteArray → List UInt8 → List Fil
  | [], n, b => [(n, b)]
  | f :: r, n, b => if sLt f.1 n = true then f :: putF r n b else if f.1 = n then (n, b) :: r else (n, b) :: f :: r
def dropF : List Fil → ByteArray → List Fil
  | [], _ => []
  | f :: r, n => if sLt f.1 n = true then f :: dropF r n else if f.1 = n then r else f :: r
/-- Files in order of their names, no name twice. -/
def InOrder (l : List Fil) : Prop := l.Pairwise fun a b => sLt a.1 b.1 = true
def costF (f : Fil) : Int := 16 + f.1.size + f.2.length
def costs : List Fil → Int
  | [] => 0
  | f :: r => costF f + costs r

theorem InOrder.tail {f : Fil} {r : List Fil} (h : InOrder (f :: r)) : InOrder r := (List.pairwise_cons.1 h).2
theorem InOrder.head {f : Fil} {r : List Fil} (h : InOrder (f :: r)) : ∀ g ∈ r, sLt f.1 g.1 = true := (List.pairwise_cons.1 h).1
theorem look_none {l : List Fil} {n : ByteArray} (h : InOrder l) : lookF l n = none ↔ ∀ f ∈ l, f.1 ≠ n := by
  induction l with
  | nil => simp [lookF]
  | cons f r ih =>
    unfold lookF
    split
    · rename_i hlt
      rw [ih h.tail]
      simp only [List.mem_cons, forall_eq_or_imp]
      exact ⟨fun hr => ⟨sLt_ne hlt, hr⟩, fun hr => hr.2⟩
    · rename_i hlt
      split
      · rename_i he
        simp [he]
      · rename_i he
        simp only [List.mem_cons, forall_eq_or_imp, true_iff]
        refine ⟨he, fun g hg e => ?_⟩
        have h1 := h.head g hg
        rw [e] at h1
        exact hlt h1
theorem look_some {l : List Fil} {n : ByteArray} {b : List UInt8} (h : InOrder l) : lookF l n = some b ↔ (n, b) ∈ l := by
  induction l with
  | nil => simp [lookF]
  | cons f r ih =>
    unfold lookF
    split
    · rename_i hlt
      rw [ih h.tail]
      simp only [List.mem_cons]
      refine ⟨.inr, fun hr => ?_⟩
      rcases hr with e | hr
      · rw [← e] at hlt
        exact absurd rfl (sLt_ne hlt)
      · exact hr
    · rename_i hlt
      have hno : (n, b) ∉ r := fun hm => hlt (h.head _ hm)
      split
      · rename_i he
        simp only [List.mem_cons, hno, or_false, Option.some.injEq]
        refine ⟨fun e => ?_, fun e => ?_⟩
        · rw [← he, ← e]
        · rw [← e]
      · rename_i he
        simp only [List.mem_cons, hno, or_false, reduceCtorEq, false_iff]
        intro e
        exact he (by rw [← e])
theorem put_mem {l : List Fil} {n : ByteArray} {b : List UInt8} : ∀ f ∈ putF l n b, f = (n, b) ∨ f ∈ l := by
  induction l with
  | nil => simp [putF]
  | cons g r ih =>
    intro f hf
    unfold putF at hf
    split at hf
    · rcases List.mem_cons.1 hf with e | hr
      · exact .inr (by rw [e]; exact List.mem_cons_self ..)
      · rcases ih f hr with e | hm
        · exact .inl e
        · exact .inr (List.mem_cons_of_mem _ hm)
    · split at hf
      · rcases List.mem_cons.1 hf with e | hr
        · exact .inl e
        · exact .inr (List.mem_cons_of_mem _ hr)
      · rcases List.mem_cons.1 hf with e | hr
        · exact .inl e
        · exact .inr hr
theorem drop_mem {l : List Fil} {n : ByteArray} : ∀ f ∈ dropF l n, f ∈ l := by
  induction l with
  | nil => simp [dropF]
  | cons g r ih =>
    intro f hf
    unfold dropF at hf
    split at hf
    · rcases List.mem_cons.1 hf with e | hr
      · rw [e]
        exact List.mem_cons_self ..
      · exact List.mem_cons_of_mem _ (ih f hr)
    · split at hf
      · exact List.mem_cons_of_mem _ hf
      · exact hf
theorem put_order {l : List Fil} {n : ByteArray} {b : List UInt8} (h : InOrder l) : InOrder (putF l n b) := by
  induction l with
  | nil => exact List.pairwise_singleton ..
  | cons f r ih =>
    unfold putF
    split
    · rename_i hlt
      refine List.pairwise_cons.2 ⟨fun g hg => ?_, ih h.tail⟩
      rcases put_mem g hg with e | hm
      · rw [e]
        exact hlt
      · exact h.head g hm
    · rename_i hlt
      split
      · rename_i he
        refine List.pairwise_cons.2 ⟨fun g hg => ?_, h.tail⟩
        have := h.head g hg
        rw [he] at this
        exact this
      · rename_i he
        have hnf : sLt n f.1 = true := sLt_total (by simpa using hlt) he
        refine List.pairwise_cons.2 ⟨fun g hg => ?_, h⟩
        rcases List.mem_cons.1 hg with e | hm
        · rw [e]
          exact hnf
        · exact sLt_trans hnf (h.head g hm)
theorem drop_order {l : List Fil} {n : ByteArray} (h : InOrder l) : InOrder (dropF l n) := by
  induction l with
  | nil => exact h
  | cons f r ih =>
    unfold dropF
    split
    · exact List.pairwise_cons.2 ⟨fun g hg => h.head g (drop_mem g hg), ih h.tail⟩
    · split
      · exact h.tail
      · exact h
theorem put_perm (l : List Fil) (n : ByteArray) (b : List UInt8) : (putF l n b).Perm ((n, b) :: dropF l n) := by
  induction l with
  | nil => exact .refl _
  | cons f r ih =>
    unfold putF dropF
    split
    · exact (ih.cons f).trans (.swap _ _ _)
    · split
      · exact .refl _
      · exact .refl _
theorem drop_perm {l : List Fil} {n : ByteArray} {b : List UInt8} (hb : lookF l n = some b) : l.Perm ((n, b) :: dropF l n) := by
  induction l with
  | nil => cases hb
  | cons f r ih =>
    unfold lookF at hb
    unfold dropF
    split at hb
    · rename_i hlt
      rw [if_pos hlt]
      exact ((ih hb).cons f).trans (.swap _ _ _)
    · rename_i hlt
      rw [if_neg hlt]
      split at hb
      · rename_i he
        rw [if_pos he]
        injection hb with hb
        have : f = (n, b) := by rw [← he, ← hb]
        rw [this]
      · cases hb
theorem drop_none {l : List Fil} {n : ByteArray} (hb : lookF l n = none) : dropF l n = l := by
  induction l with
  | nil => rfl
  | cons f r ih =>
    unfold lookF at hb
    unfold dropF
    split at hb
    · rename_i hlt
      rw [if_pos hlt, ih hb]
    · rename_i hlt
      rw [if_neg hlt]
      split at hb
      · cases hb
      · rename_i he
        rw [if_neg he]
theorem costs_perm {l m : List Fil} (h : l.Perm m) : costs l = costs m := by
  induction h with
  | nil => rfl
  | cons x _ ih => simp only [costs, ih]
  | swap x y l => simp only [costs]; omega
  | trans _ _ h1 h2 => rw [h1, h2]
theorem costF_pos (f : Fil) : 16 ≤ costF f := by unfold costF; omega
theorem costs_nonneg (l : List Fil) : 0 ≤ costs l := by
  induction l with
  | nil => exact Int.le_refl _
  | cons f r ih => have := costF_pos f; simp only [costs]; omega
theorem costs_put (l : List Fil) (n : ByteArray) (b : List UInt8) : costs (putF l n b) = costF (n, b) + costs (dropF l n) := costs_perm (put_perm l n b)
theorem costs_drop {l : List Fil} {n : ByteArray} {b : List UInt8} (h : lookF l n = some b) : costs l = costF (n, b) + costs (dropF l n) := costs_perm (drop_perm h)
theorem look_put {l : List Fil} {n : ByteArray} {b : List UInt8} (h : InOrder l) (m : ByteArray) : lookF (putF l n b) m = if m = n then some b else lookF l m := by
  split
  · rename_i e
    subst e
    exact (look_some (put_order h)).2 ((put_perm l m b).mem_iff.2 (List.mem_cons_self ..))
  · rename_i e
    cases hl : lookF l m with
    | none =>
      refine (look_none (put_order h)).2 fun f hf => ?_
      rcases put_mem f hf with e2 | hm
      · rw [e2]
        exact fun e3 => e e3.symm
      · exact (look_none h).1 hl f hm
    | some c =>
      refine (look_some (put_order h)).2 ((put_perm l n b).mem_iff.2 (List.mem_cons_of_mem _ ?_))
      have hm := (look_some h).1 hl
      cases hn : lookF l n with
      | none => rwa [drop_none hn]
      | some d =>
        rcases List.mem_cons.1 ((drop_perm hn).mem_iff.1 hm) with e2 | hm2
        · exact absurd (by injection e2) e
        · exact hm2
theorem drop_gone {l : List Fil} {n : ByteArray} (h : InOrder l) : ∀ f ∈ dropF l n, f.1 ≠ n := by
  induction l with
  | nil => simp [dropF]
  | cons g r ih =>
    intro f hf
    unfold dropF at hf
    split at hf
    · rename_i hlt
      rcases List.mem_cons.1 hf with e | hr
      · rw [e]
        exact sLt_ne hlt
      · exact ih h.tail f hr
    · rename_i hlt
      split at hf
      · rename_i he
        have := h.head f hf
        rw [he] at this
        exact (sLt_ne this).symm
      · rename_i he
        rcases List.mem_cons.1 hf with e | hr
        · rw [e]
          exact he
        · intro e
          have h1 := h.head f hr
          rw [e] at h1
          exact hlt h1
theorem look_drop {l : List Fil} {n : ByteArray} (h : InOrder l) (m : ByteArray) : lookF (dropF l n) m = if m = n then none else lookF l m := by
  split
  · rename_i e
    subst e
    exact (look_none (drop_order h)).2 (drop_gone h)
  · rename_i e
    cases hl : lookF l m with
    | none => exact (look_none (drop_order h)).2 fun f hf => (look_none h).1 hl f (drop_mem f hf)
    | some c =>
      refine (look_some (drop_order h)).2 ?_
      have hm := (look_some h).1 hl
      cases hn : lookF l n with
      | none => rwa [drop_none hn]
      | some d =>
        rcases List.mem_cons.1 ((drop_perm hn).mem_iff.1 hm) with e2 | hm2
        · exact absurd (by injection e2) e
        · exact hm2
/-- Two lists in order of the same files are the same. -/
theorem order_unique {l m : List Fil} (hl : InOrder l) (hm : InOrder m) (h : l.Perm m) : l = m := by
  induction l generalizing m with
  | nil => exact (List.nil_perm.1 h).symm ▸ rfl
  | cons f r ih =>
    cases m with
    | nil => exact absurd h.symm (by simp)
    | cons g s =>
      have hfg : f = g := by
        rcases List.mem_cons.1 (h.mem_iff.1 (List.mem_cons_self ..)) with e | hs
        · exact e
        · rcases List.mem_cons.1 (h.mem_iff.2 (List.mem_cons_self (a := g) (l := s))) with e | hr
          · exact e.symm
          · have h1 := hm.head f hs
            have h2 := hl.head g hr
            rw [sLt_asymm h1] at h2
            cases h2
      subst hfg
      rw [ih hl.tail hm.tail ((List.perm_cons f).1 h)]

/-- A disk, as the document has it. -/
structure Dk where
  cap : Int
  l : List Fil
  done : Nat
  left : Int
  dark : Bool
def frD (D : Dk) : Int := IntKind.i64.wrap (D.cap - costs D.l)
/-- A raw write that costs more, or less. -/
def spendD (D : Dk) (l' : List Fil) : Int × Dk :=
  if D.left = 0 then (5, { D with dark := true, left := -1 })
  else (0, { D with left := if 0 < D.left then D.left - 1 else D.left, done := D.done + 1, l := l' })
def roomD (D : Dk) (more : Int) (l' : List Fil) : Int × Dk := if 0 < more ∧ frD D < more then (4, D) else spendD D l'
/-- What an append costs; what a renaming must have free. -/
def appMore (D : Dk) (n : ByteArray) (b : List UInt8) : Int := b.length + (match lookF D.l n with | none => 16 + (n.size : Int) | some _ => 0)
def renNeed (D : Dk) (a b : ByteArray) : Int := match lookF D.l b with | none => (b.size : Int) - a.size | some _ => 0
def appD (D : Dk) (n : ByteArray) (b : List UInt8) : Int × Dk :=
  if 64 < b.length ∨ nameB n = false then (1, D) else if D.dark = true then (5, D) else
    roomD D (appMore D n b) (putF D.l n ((lookF D.l n).getD [] ++ b))
/-- May a file that is there be touched? -/
def touchD (D : Dk) (n : ByteArray) : Int := if nameB n = false then 1 else if D.dark = true then 5 else if (lookF D.l n).isSome = true then 0 else 3
def remD (D : Dk) (n : ByteArray) : Int × Dk := if touchD D n ≠ 0 then (touchD D n, D) else spendD D (dropF D.l n)
def syncD (D : Dk) (n : ByteArray) : Int × Dk := if touchD D n ≠ 0 then (touchD D n, D) else spendD D D.l
def renD (D : Dk) (a b : ByteArray) : Int × Dk :=
  if nameB a = false ∨ nameB b = false then (1, D) else if touchD D a ≠ 0 then (touchD D a, D) else
    roomD D (renNeed D a b) (putF (dropF D.l a) b ((lookF D.l a).getD []))
def readD (D : Dk) (n : ByteArray) : List UInt8 × Int := if nameB n = false then ([], 1) else match lookF D.l n with | none => ([], 3) | some b => (b, 0)
def cutD (D : Dk) (k : Int) : Int × Dk := if k < 0 then (1, D) else (0, if D.dark = true then D else { D with left := k })
def onD (D : Dk) : Dk := { D with dark := false, left := -1 }
end Go.Dol
namespace Go.Proofs.YtecpbcmpncgokaaGreat
open Go.RowKit Go.Dol
set_option linter.unusedVariables false

theorem str_law : Go.Maps.Keyed Tryz.prog 9 := Go.Maps.string_keyed Tryz.underlying9
theorem str_key (n : ByteArray) (hn : n.size ≤ maxLen) : ∃ kl, keyOf Tryz.prog 9 (.string n) = some kl := ⟨_, Go.WideMaps.keyOf_string_mk Tryz.underlying9 hn⟩
theorem bytes_zero (w : World) : (zeroValue 36).run Tryz.prog w = .ok (.slice none 0 0) w := by kernel_rfl

/-- How a file's bytes lie: in a row of bytes. -/
def Byt (w : World) (v : Value) (b : List UInt8) : Prop := ∃ A c, v = .slice A b.length c ∧ Far w 0 A b ∧ b.length ≤ c ∧ c ≤ maxLen
/-- The entries of a map are just these files. -/
def Fls (w : World) (al : List (Value × Value)) (L : List Fil) : Prop :=
  ∃ M : List (Fil × Value), al = M.map (fun m => (Value.string m.1.1, m.2)) ∧ (∀ p ∈ M, Byt w p.2 p.1.2) ∧ (M.map Prod.fst).Perm L

section
variable {w w' : World} {v : Value} {b : List UInt8} {al al' : List (Value × Value)} {L : List Fil} {n : ByteArray}
theorem Byt.keep (h : Byt w v b) {row : Option Nat} (hg : w.grownBy w' row) (hr : Other w 0 row) : Byt w' v b := by
  obtain ⟨A, c, h1, h2, h3⟩ := h
  exact ⟨A, c, h1, h2.keep hg hr, h3⟩
theorem Byt.below (h : Byt w v b) (hb : Below w.heap.size w w') : Byt w' v b := by
  obtain ⟨A, c, h1, h2, h3⟩ := h
  exact ⟨A, c, h1, h2.below hb, h3⟩
theorem Byt.seg {base : Nat} {A : Option Addr} {c : Nat} (h : Seg w base 5 1 A b.length c (bc b)) : Byt w (.slice A b.length c) b := ⟨A, c, rfl, Far.of_seg h, h.2.1, h.2.2.1⟩
theorem Byt.own {base : Nat} (h : w.ownsRow base 5 1 v b.length (bc b)) : Byt w v b := by
  obtain ⟨A, c, rfl, _, _⟩ := own_form h
  exact Byt.seg (Seg.of_own h)
theorem Fls.keep (h : Fls w al L) {row : Option Nat} (hg : w.grownBy w' row) (hr : Other w 0 row) : Fls w' al L := by
  obtain ⟨M, h1, h2, h3⟩ := h
  exact ⟨M, h1, fun p hp => (h2 p hp).keep hg hr, h3⟩
theorem Fls.below (h : Fls w al L) (hb : Below w.heap.size w w') : Fls w' al L := by
  obtain ⟨M, h1, h2, h3⟩ := h
  exact ⟨M, h1, fun p hp => (h2 p hp).below hb, h3⟩
theorem Fls.nil (w : World) : Fls w [] [] := ⟨[], rfl, fun _ h => (List.not_mem_nil h).elim, .refl _⟩
theorem Fls.split {M : List (Fil × Value)} {l r : List (Value × Value)} {v0 : Value} (h : M.map (fun m => (Value.string m.1.1, m.2)) = l ++ (.string n, v0) :: r) :
    ∃ M1 b0 M2, M = M1 ++ ((n, b0), v0) :: M2 ∧ M1.map (fun m => (Value.string m.1.1, m.2)) = l ∧ M2.map (fun m => (Value.string m.1.1, m.2)) = r := by
  obtain ⟨M1, M2, rfl, h1, h2⟩ := List.map_eq_append_iff.1 h
  obtain ⟨q, M3, rfl, h3, h4⟩ := List.map_eq_cons_iff.1 h2
  obtain ⟨⟨n', b0⟩, v'⟩ := q
  simp only [Prod.mk.injEq, Value.string.injEq] at h3
  obtain ⟨rfl, rfl⟩ := h3
  exact ⟨M1, b0, M3, rfl, h1, h4⟩
theorem Fls.look (h : Fls w al L) (hL : InOrder L) (hm : (Value.string n, v) ∈ al) : ∃ b, lookF L n = some b ∧ Byt w v b := by
  obtain ⟨M, rfl, h2, h3⟩ := h
  obtain ⟨⟨⟨n', b⟩, v'⟩, hp, he⟩ := List.mem_map.1 hm
  simp only [Prod.mk.injEq, Value.string.injEq] at he
  obtain ⟨rfl, rfl⟩ := he
  exact ⟨b, (look_some hL).2 (h3.mem_iff.1 (List.mem_map.2 ⟨_, hp, rfl⟩)), h2 _ hp⟩
theorem Fls.none (h : Fls w al L) (hL : InOrder L) (hno : ∀ p ∈ al, p.1 ≠ Value.string n) : lookF L n = none := by
  obtain ⟨M, rfl, h2, h3⟩ := h
  refine (look_none hL).2 fun f hf e => ?_
  obtain ⟨p, hp, rfl⟩ := List.mem_map.1 (h3.mem_iff.2 hf)
  exact hno _ (List.mem_map.2 ⟨p, hp, rfl⟩) (by rw [← e])
theorem Fls.put (h : Fls w al L) (hL : InOrder L) (hp : MPut al (.string n) v al') (hv : Byt w v b) : Fls w al' (putF L n b) := by
  have h0 := h
  obtain ⟨M, rfl, h2, h3⟩ := h
  rcases hp with ⟨hno, rfl⟩ | ⟨l, r, v0, he, rfl⟩
  · refine ⟨M ++ [((n, b), v)], by simp, fun p hp => ?_, ?_⟩
    · rcases List.mem_append.1 hp with hp | hp
      · exact h2 p hp
      · rw [List.mem_singleton.1 hp]
        exact hv
    · have hn := h0.none hL hno
      refine .trans ?_ (put_perm L n b).symm
      rw [drop_none hn, List.map_append]
      exact (List.perm_append_comm).trans (h3.cons _)
  · obtain ⟨M1, b0, M2, rfl, rfl, rfl⟩ := Fls.split he
    refine ⟨M1 ++ ((n, b), v) :: M2, by simp, fun p hp => ?_, ?_⟩
    · rcases List.mem_append.1 hp with hp | hp
      · exact h2 p (List.mem_append.2 (.inl hp))
      · rcases List.mem_cons.1 hp with rfl | hp
        · exact hv
        · exact h2 p (List.mem_append.2 (.inr (List.mem_cons_of_mem _ hp)))
    · have hb0 : lookF L n = some b0 := (look_some hL).2 (h3.mem_iff.1 (by simp))
      have hd : (((M1 ++ M2).map Prod.fst)).Perm (dropF L n) := by
        refine (List.perm_cons (n, b0)).1 (.trans ?_ (h3.trans (drop_perm hb0)))
        rw [List.map_append, List.map_append, List.map_cons]
        exact List.perm_middle.symm
      refine .trans ?_ (put_perm L n b).symm
      rw [List.map_append, List.map_cons]
      refine List.perm_middle.trans (.cons _ ?_)
      rw [← List.map_append]
      exact hd
theorem Fls.drop (h : Fls w al L) (hL : InOrder L) (hp : MDel al (.string n) al') : Fls w al' (dropF L n) := by
  have h0 := h
  obtain ⟨M, rfl, h2, h3⟩ := h
  rcases hp with ⟨hno, rfl⟩ | ⟨l, r, v0, he, rfl⟩
  · rw [drop_none (h0.none hL hno)]
    exact h0
  · obtain ⟨M1, b0, M2, rfl, rfl, rfl⟩ := Fls.split he
    have hb0 : lookF L n = some b0 := (look_some hL).2 (h3.mem_iff.1 (by simp))
    refine ⟨M1 ++ M2, by simp, fun p hp => ?_, ?_⟩
    · rcases List.mem_append.1 hp with hp | hp
      · exact h2 p (List.mem_append.2 (.inl hp))
      · exact h2 p (List.mem_append.2 (.inr (List.mem_cons_of_mem _ hp)))
    · refine (List.perm_cons (n, b0)).1 (.trans ?_ (h3.trans (drop_perm hb0)))
      rw [List.map_append, List.map_append, List.map_cons]
      exact List.perm_middle.symm
end

/-- A count of raw writes, as a number of 64 bits. -/
def opsD (n : Nat) : Int := IntKind.i64.wrap n
/-- The cells of a disk. -/
def dcells (cap : Int) (m : Nat) (fr : Int) (done : Nat) (left : Int) (dark : Bool) : List Value :=
  [.int .i64 cap, .map (some m), .int .i64 fr, .int .i64 (opsD done), .int .i64 left, .bool dark]
/-- A disk at block g, its map of files at block m. -/
def Dsk (w : World) (g m : Nat) (D : Dk) : Prop := ∃ al, Blk w g 145 (dcells D.cap m (frD D) D.done D.left D.dark) ∧ MapL Tryz.prog 9 w m al ∧ Fls w al D.l
/-- A row that is a map's is none of bytes. -/
theorem Other.map {k : TypeId} {w : World} {m : Nat} {al : List (Value × Value)} (h : MapL Tryz.prog k w m al) : Other w 0 (some m) := by
  intro j hj
  injection hj with hj
  subst hj
  refine ⟨Nat.zero_le _, fun cur fr e => ?_⟩
  obtain ⟨es, clock, hb, _⟩ := h
  rw [hb] at e
  cases e

section
variable {w w' : World} {g m : Nat} {D : Dk}
theorem Dsk.lt (h : Dsk w g m D) : g < w.heap.size ∧ m < w.heap.size := by
  obtain ⟨al, hB, hM, _⟩ := h
  exact ⟨hB.lt, hM.lt⟩
theorem Dsk.below (h : Dsk w g m D) (hb : Below w.heap.size w w') : Dsk w' g m D := by
  obtain ⟨al, hB, hM, hF⟩ := h
  exact ⟨al, hB.below hb hB.lt, hM.belowW hb, hF.below hb⟩
theorem Dsk.drew (h : Dsk w g m D) : Dsk w.drew g m D := h.below ⟨rfl, rfl, rfl, Nat.le_refl _, fun _ _ => rfl⟩
theorem Dsk.drewN (h : Dsk w g m D) (k : Nat) : Dsk (w.drewN k) g m D := h.below ⟨rfl, rfl, rfl, Nat.le_refl _, fun _ _ => rfl⟩
/-- What a name's look-up answers. -/
theorem map_find {al : List (Value × Value)} {L : List Fil} (hM : MapL Tryz.prog 9 w m al) (hF : Fls w al L) (hL : InOrder L) (n : ByteArray) (hn : n.size ≤ maxLen) :
    (Hid (lookF L n = none) ∧ (∀ W : World, W.heap[m]? = w.heap[m]? → (Instr.lookup 140 (.map (some m)) (.string n) true).run Tryz.prog W = .ok (.tuple #[.slice none 0 0, .bool false]) W) ∧
      ∀ W : World, W.heap[m]? = w.heap[m]? → (Instr.lookup 140 (.map (some m)) (.string n) false).run Tryz.prog W = .ok (.slice none 0 0) W) ∨
    ∃ b A c, Hid (lookF L n = some b) ∧ Far w 0 A b ∧ b.length ≤ c ∧ c ≤ maxLen ∧ (∀ W : World, W.heap[m]? = w.heap[m]? → (Instr.lookup 140 (.map (some m)) (.string n) true).run Tryz.prog W = .ok (.tuple #[.slice A b.length c, .bool true]) W) ∧
      ∀ W : World, W.heap[m]? = w.heap[m]? → (Instr.lookup 140 (.map (some m)) (.string n) false).run Tryz.prog W = .ok (.slice A b.length c) W := by
  obtain ⟨kl, hkl⟩ := str_key n hn
  have hr := fun (W : World) (hW : W.heap[m]? = w.heap[m]?) (ok : Bool) => (hM.keepB hW).look str_law Tryz.underlying140 (bytes_zero _) hkl ok
  by_cases hex : ∃ v, (Value.string n, v) ∈ al
  · obtain ⟨v, hv⟩ := hex
    obtain ⟨b, hb, A, c, rfl, hf, hc⟩ := hF.look hL hv
    have huniq : ∀ u, (Value.string n, u) ∈ al → u = .slice A b.length c := by
      intro u hu
      have hnd := hM.nodup
      obtain ⟨l, r, rfl⟩ := List.append_of_mem hv
      rw [List.map_append, List.map_cons, List.nodup_append] at hnd
      rcases List.mem_append.1 hu with hu | hu
      · exact absurd rfl (hnd.2.2 _ (List.mem_map.2 ⟨_, hu, rfl⟩) _ (by simp))
      · rcases List.mem_cons.1 hu with e | hu
        · injection e
        · exact absurd (List.mem_map.2 ⟨_, hu, rfl⟩) (List.nodup_cons.1 hnd.2.1).1
    refine .inr ⟨b, A, c, Lib.hid hb, hf, hc.1, hc.2, fun W hW => ?_, fun W hW => ?_⟩
    · rcases hr W hW true with ⟨h1, _⟩ | ⟨u, h1, h2⟩
      · exact absurd rfl (h1 _ hv)
      · rw [huniq u h1] at h2
        exact h2
    · rcases hr W hW false with ⟨h1, _⟩ | ⟨u, h1, h2⟩
      · exact absurd rfl (h1 _ hv)
      · rw [huniq u h1] at h2
        exact h2
  · have hno : ∀ p ∈ al, p.1 ≠ Value.string n := by
      rintro ⟨k, v⟩ hp e
      exact hex ⟨v, by rw [← e]; exact hp⟩
    refine .inl ⟨Lib.hid (hF.none hL hno), fun W hW => ?_, fun W hW => ?_⟩
    · rcases hr W hW true with ⟨_, h2⟩ | ⟨u, h1, _⟩
      · exact h2
      · exact absurd ⟨u, h1⟩ hex
    · rcases hr W hW false with ⟨_, h2⟩ | ⟨u, h1, _⟩
      · exact h2
      · exact absurd ⟨u, h1⟩ hex
/-- The same, of a disk. -/
theorem Dsk.find (h : Dsk w g m D) (hL : InOrder D.l) (n : ByteArray) (hn : n.size ≤ maxLen) :
    (Hid (lookF D.l n = none) ∧ (∀ W : World, W.heap[m]? = w.heap[m]? → (Instr.lookup 140 (.map (some m)) (.string n) true).run Tryz.prog W = .ok (.tuple #[.slice none 0 0, .bool false]) W) ∧
      ∀ W : World, W.heap[m]? = w.heap[m]? → (Instr.lookup 140 (.map (some m)) (.string n) false).run Tryz.prog W = .ok (.slice none 0 0) W) ∨
    ∃ b A c, Hid (lookF D.l n = some b) ∧ Far w 0 A b ∧ b.length ≤ c ∧ c ≤ maxLen ∧ (∀ W : World, W.heap[m]? = w.heap[m]? → (Instr.lookup 140 (.map (some m)) (.string n) true).run Tryz.prog W = .ok (.tuple #[.slice A b.length c, .bool true]) W) ∧
      ∀ W : World, W.heap[m]? = w.heap[m]? → (Instr.lookup 140 (.map (some m)) (.string n) false).run Tryz.prog W = .ok (.slice A b.length c) W := by
  obtain ⟨al, hB, hM, hF⟩ := h
  exact map_find hM hF hL n hn
end
end Go.Proofs.YtecpbcmpncgokaaGreat
namespace Go.Proofs.YtecpbcmpncgokaaGreat
open Go.RowKit Go.Dol
set_option linter.unusedVariables false

set_option maxRecDepth 100000 in
set_option maxHeartbeats 800000 in
theorem nameF_calls (n : ByteArray) (w : World) : Calls Tryz.prog 171 #[.string n] w fun e w' => e = .returned (.bool (!nameB n)) ∧ w' = w := by
  obtain ⟨r, hr⟩ : ∃ r, r = !nameB n := ⟨_, rfl⟩
  rw [← hr]
  by_cases h1 : n.size < 1
  · have d1 : decide ((n.size : Int) < 1) = true := decide_eq_true (by omega)
    have HF : Hid (r = true) := by unfold Hid nameB at *; rw [hr, decide_eq_false (show ¬ 1 ≤ n.size by omega)]; simp
    clear h1 hr
    go_enter Tryz.func171, Tryz.ntmps171
    go_wp2_with fail
    go_ret
    rw [HF.out]
    exact ⟨rfl, rfl⟩
  · have d1 : decide ((n.size : Int) < 1) = false := decide_eq_false (by omega)
    have e1 : decide (1 ≤ n.size) = true := decide_eq_true (by omega)
    by_cases h2 : 200 < n.size
    · have d2 : decide ((n.size : Int) > 200) = true := decide_eq_true (by omega)
      have d2' : decide ((200 : Int) < (n.size : Int)) = true := decide_eq_true (by omega)
      have HF : Hid (r = true) := by unfold Hid nameB at *; rw [hr, decide_eq_false (show ¬ n.size ≤ 200 by omega)]; simp
      clear h1 h2 hr e1
      go_enter Tryz.func171, Tryz.ntmps171
      go_wp2_with fail
      go_ret
      rw [HF.out]
      exact ⟨rfl, rfl⟩
    · have d2 : decide ((n.size : Int) > 200) = false := decide_eq_false (by omega)
      have d2' : decide ((200 : Int) < (n.size : Int)) = false := decide_eq_false (by omega)
      have e2 : decide (n.size ≤ 200) = true := decide_eq_true (by omega)
      cases h3 : n.data.toList.contains 0 with
      | true =>
        have i3 := index_has h3
        obtain ⟨k, hk⟩ : ∃ k, k = Lib.indexByte n.data.toList 0 := ⟨_, rfl⟩
        rw [← hk] at i3
        have K := Lib.hid hk
        have HF : Hid (r = true) := by unfold Hid nameB at *; rw [hr, h3]; simp
        have hk0 : decide (k ≥ 0) = true := decide_eq_true i3
        have hk1 : decide (0 ≤ k) = true := decide_eq_true i3
        clear h1 h2 hr hk h3 i3 e1 e2
        go_enter Tryz.func171, Tryz.ntmps171
        go_wp2_with (go_at_call 172; refine (index_lit n 0 0 rfl _).mono ?_; rintro e w' ⟨rfl, rfl⟩; rw [← K.out])
        go_ret
        rw [HF.out]
        exact ⟨rfl, rfl⟩
      | false =>
        have i3 := Lib.hid (index_hasnt h3)
        have HF : Hid (r = false) := by unfold Hid nameB at *; rw [hr, h3, e1, e2]; rfl
        clear h1 h2 hr h3 e1 e2
        go_enter Tryz.func171, Tryz.ntmps171
        go_wp2_with (go_at_call 172; refine (index_lit n 0 0 rfl _).mono ?_; rintro e w' ⟨rfl, rfl⟩; rw [i3.out])
        go_ret
        rw [HF.out]
        exact ⟨rfl, rfl⟩

def sc (ns : List ByteArray) : List Value := ns.map .string
def IdxRel (ns : List ByteArray) (w : World) (i : Value) (wr : World) : Prop := ∃ k : Nat, i = .int .i64 k ∧ k ≤ ns.length ∧ Hid (∀ n ∈ ns.take k, nameB n = true) ∧ wr = w

set_option maxRecDepth 100000 in
set_option maxHeartbeats 800000 in
theorem IndexFunc_calls (B : Nat) (A : Option Addr) (ns : List ByteArray) (c : Nat) (w : World) (hr : Rd w B 1 A ns.length (sc ns)) (hl : ns.length ≤ 140737488355328) :
    Calls Tryz.prog 242 #[.slice A ns.length c, .func (.func 171) #[] #[]] w fun e w' => ∃ r : Int, e = .returned (.int .i64 r) ∧ Hid (decide (0 ≤ r) = !ns.all nameB) ∧ w' = w := by
  go_enter Tryz.func242, Tryz.ntmps242
  go_wp2_with fail
  go_loopw [8] (fun i wr => IdxRel ns w i wr) (fun i _ => ns.length - (intOf i).toNat)
  case atStart => exact ⟨0, rfl, Nat.zero_le _, Lib.hid (by simp), rfl⟩
  case round =>
    obtain ⟨k, rfl, hk, hT, rfl⟩ := hrel
    by_cases hlt : k < ns.length
    · have hd : decide ((k : Int) < (ns.length : Int)) = true := decide_eq_true (by omega)
      obtain ⟨b, off, rfl, hb, hcell⟩ := hr.at_ (by omega)
      obtain ⟨n, hn⟩ : ∃ n, ns[k]? = some n := ⟨ns[k], List.getElem?_eq_getElem hlt⟩
      have hn1 : (sc ns)[k]? = some (.string n) := by simp [sc, hn]
      have k1 := hcell k _ hn1
      have HN := Lib.hid hn
      clear hn hn1 hcell hr
      cases hB : nameB n with
      | true =>
        go_wp2_with ((go_at_call 171; refine (nameF_calls n _).mono ?_; rw [hB]; rintro e w' ⟨rfl, rfl⟩))
        refine ⟨⟨k + 1, by go_num, by omega, Lib.hid fun m hm => ?_, rfl⟩, by simp [intOf]; omega⟩
        rw [List.take_add_one, List.mem_append] at hm
        rcases hm with hm | hm
        · exact hT.out m hm
        · rw [HN.out] at hm
          rw [List.mem_singleton.1 hm]
          exact hB
      | false =>
        go_wp2_with ((go_at_call 171; refine (nameF_calls n _).mono ?_; rw [hB]; rintro e w' ⟨rfl, rfl⟩))
        go_ret
        refine ⟨k, rfl, Lib.hid ?_, rfl⟩
        have h1 : ns.all nameB = false := List.all_eq_false.2 ⟨n, List.mem_of_getElem? HN.out, by rw [hB]; decide⟩
        rw [h1]
        exact decide_eq_true (by omega)
    · have hd : decide ((k : Int) < (ns.length : Int)) = false := decide_eq_false (by omega)
      have hk2 : k = ns.length := by omega
      have HK := Lib.hid hk2
      clear hk2
      go_wp2_with fail
      go_ret
      refine ⟨-1, rfl, Lib.hid ?_, rfl⟩
      have h1 : ns.all nameB = true := List.all_eq_true.2 fun n hn => hT.out n (by rw [HK.out, List.take_length]; exact hn)
      rw [h1]
      decide

set_option maxRecDepth 100000 in
set_option maxHeartbeats 800000 in
theorem named_calls (B : Nat) (A : Option Addr) (ns : List ByteArray) (c : Nat) (w : World) (hr : Rd w B 1 A ns.length (sc ns)) (hl : ns.length ≤ 140737488355328) :
    Calls Tryz.prog 101 #[.slice A ns.length c] w fun e w' => e = .returned (.bool (ns.all nameB)) ∧ w' = w := by
  have hC : Calls Tryz.prog 170 #[.slice A ns.length c, .func (.func 171) #[] #[]] w fun e w' => e = .returned (.bool (!ns.all nameB)) ∧ w' = w := by
    go_enter Tryz.func170, Tryz.ntmps170
    go_wp2_with ((go_at_call 242; refine (IndexFunc_calls B A ns c _ hr hl).mono ?_; rintro e w' ⟨r, rfl, hr1, rfl⟩))
    go_ret
    refine ⟨?_, rfl⟩
    have := hr1.out
    rw [← this]
    simp
  generalize ns.all nameB = r at hC ⊢
  go_enter Tryz.func101, Tryz.ntmps101
  go_wp2_with ((go_at_call 170; refine hC.mono ?_; rintro e w' ⟨rfl, rfl⟩))
  go_ret
  simp
end Go.Proofs.YtecpbcmpncgokaaGreat
