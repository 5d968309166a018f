/- Texts put in order one by one, in plain Lean. No program is in sight. Conditions: none beyond what each lemma names. -/
import Derived.Test.YtnaakfnbmeimaaaGreatDiskSpec
set_option linter.unusedVariables false
namespace Go.Dol
def Strict (l : List ByteArray) : Prop:=l.Pairwise fun a b => sLt a b = true
theorem Strict.tail {x : ByteArray} {l : List ByteArray} (h : Strict (x :: l)) : Strict l:=(List.pairwise_cons.1 h).2
theorem Strict.same {l m : List ByteArray} (hl : Strict l) (hm : Strict m) (h : ∀ x,x ∈ l ↔ x ∈ m) : l = m:=by
 induction l generalizing m with
 | nil =>
  cases m with
  | nil => rfl
  | cons g s => exact absurd ((h g).2 (List.mem_cons_self ..)) List.not_mem_nil
 | cons f r ih =>
  cases m with
  | nil => exact absurd ((h f).1 (List.mem_cons_self ..)) List.not_mem_nil
  | cons g s =>
   have h1:=(List.pairwise_cons.1 hl).1
   have h2:=(List.pairwise_cons.1 hm).1
   have hfg : f = g:=by
    rcases List.mem_cons.1 ((h f).1 (List.mem_cons_self ..)) with e | hs
    ·exact e
    ·rcases List.mem_cons.1 ((h g).2 (List.mem_cons_self ..)) with e | hr
     ·exact e.symm
     ·have a:=h2 f hs
      have b:=h1 g hr
      rw [sLt_asymm a] at b
      cases b
   subst hfg
   rw [ih hl.tail hm.tail fun x => ⟨fun hx => ?_,fun hx => ?_⟩]
   ·rcases List.mem_cons.1 ((h x).1 (List.mem_cons_of_mem _ hx)) with e | hs
    ·rw [e] at hx
     have:=h1 f hx
     rw [sLt_irrefl] at this
     cases this
    ·exact hs
   ·rcases List.mem_cons.1 ((h x).2 (List.mem_cons_of_mem _ hx)) with e | hr
    ·rw [e] at hx
     have:=h2 f hx
     rw [sLt_irrefl] at this
     cases this
    ·exact hr
def posS : List ByteArray → ByteArray → Nat
 | [],_ => 0
 | y :: r,x => if sLt y x = true then posS r x + 1 else 0
def insS (l : List ByteArray) (x : ByteArray) : List ByteArray:=l.take (posS l x) ++ x :: l.drop (posS l x)
theorem posS_le (l : List ByteArray) (x : ByteArray) : posS l x ≤ l.length:=by
 induction l with
 | nil => exact Nat.le_refl _
 | cons y r ih => unfold posS; split <;> simp; omega
theorem insS_mem (l : List ByteArray) (x y : ByteArray) : y ∈ insS l x ↔ y = x ∨ y ∈ l:=by
 unfold insS
 rw [List.mem_append,List.mem_cons]
 have h : y ∈ l ↔ y ∈ l.take (posS l x) ∨ y ∈ l.drop (posS l x):=by rw [← List.mem_append,List.take_append_drop]
 rw [h]
 constructor
 ·rintro (h | h | h)
  ·exact .inr (.inl h)
  ·exact .inl h
  ·exact .inr (.inr h)
 ·rintro (h | h | h)
  ·exact .inr (.inl h)
  ·exact .inl h
  ·exact .inr (.inr h)
theorem insS_cons (y : ByteArray) (r : List ByteArray) (x : ByteArray) : insS (y :: r) x = if sLt y x = true then y :: insS r x else x :: y :: r:=by
 have e : posS (y :: r) x = if sLt y x = true then posS r x + 1 else 0:=rfl
 unfold insS
 rw [e]
 split <;> simp
theorem insS_strict {l : List ByteArray} (h : Strict l) {x : ByteArray} (hx : x ∉ l) : Strict (insS l x):=by
 induction l with
 | nil => exact List.pairwise_singleton ..
 | cons y r ih =>
  rw [insS_cons]
  have hxy : y ≠ x:=fun e => hx (by rw [e]; exact List.mem_cons_self ..)
  have h1:=(List.pairwise_cons.1 h).1
  split
  ·rename_i hlt
   refine List.pairwise_cons.2 ⟨fun z hz => ?_,ih h.tail fun hm => hx (List.mem_cons_of_mem _ hm)⟩
   rcases (insS_mem r x z).1 hz with e | hz
   ·rw [e]; exact hlt
   ·exact h1 z hz
  ·rename_i hlt
   have hgt : sLt x y = true:=sLt_total (by simpa using hlt) hxy
   refine List.pairwise_cons.2 ⟨fun z hz => ?_,h⟩
   rcases List.mem_cons.1 hz with e | hz
   ·rw [e]; exact hgt
   ·exact sLt_trans hgt (h1 z hz)
def srtS (l : List ByteArray) : List ByteArray:=l.foldl insS []
theorem srtS_snoc (l : List ByteArray) (x : ByteArray) : srtS (l ++ [x]) = insS (srtS l) x:=by
 unfold srtS
 rw [List.foldl_append]
 rfl
theorem foldS_ok (l : List ByteArray) : ∀ acc,Strict acc → l.Nodup → (∀ x ∈ l,x ∉ acc) → Strict (l.foldl insS acc) ∧ ∀ x,x ∈ l.foldl insS acc ↔ x ∈ acc ∨ x ∈ l:=by
 induction l with
 | nil => intro acc h _ _; exact ⟨h,fun x => by simp⟩
 | cons y r ih =>
  intro acc h hn hd
  obtain ⟨h1,h2⟩:=List.nodup_cons.1 hn
  obtain ⟨a,b⟩:=ih (insS acc y) (insS_strict h (hd y (List.mem_cons_self ..))) h2 fun x hx hm => by
   rcases (insS_mem acc y x).1 hm with e | hm
   ·exact h1 (by rw [← e]; exact hx)
   ·exact hd x (List.mem_cons_of_mem _ hx) hm
  refine ⟨a,fun x => ?_⟩
  rw [List.foldl_cons,b x,insS_mem,List.mem_cons]
  constructor
  ·rintro ((h | h) | h)
   ·exact .inr (.inl h)
   ·exact .inl h
   ·exact .inr (.inr h)
  ·rintro (h | h | h)
   ·exact .inl (.inr h)
   ·exact .inl (.inl h)
   ·exact .inr h
theorem srtS_ok {l : List ByteArray} (hn : l.Nodup) : Strict (srtS l) ∧ ∀ x,x ∈ srtS l ↔ x ∈ l:=by
 obtain ⟨a,b⟩:=foldS_ok l [] List.Pairwise.nil hn fun x _ h => List.not_mem_nil h
 exact ⟨a,fun x => (b x).trans (by simp)⟩
theorem posS_lt {l : List ByteArray} {x : ByteArray} {j : Nat} (h : j < posS l x) : ∃ y,l[j]? = some y ∧ sLt y x = true:=by
 induction l generalizing j with
 | nil => simp [posS] at h
 | cons y r ih =>
  have e : posS (y :: r) x = if sLt y x = true then posS r x + 1 else 0:=rfl
  rw [e] at h
  split at h
  ·rename_i hlt
   cases j with
   | zero => exact ⟨y,rfl,hlt⟩
   | succ j => exact ih (by omega)
  ·omega
theorem posS_at {l : List ByteArray} {x y : ByteArray} (h : l[posS l x]? = some y) : sLt y x = false:=by
 induction l with
 | nil => cases h
 | cons z r ih =>
  have e : posS (z :: r) x = if sLt z x = true then posS r x + 1 else 0:=rfl
  rw [e] at h
  split at h
  ·exact ih (by simpa using h)
  ·rename_i hlt
   have : z = y:=by simpa using h
   rw [← this]
   simpa using hlt
end Go.Dol
