/- What layer 'delta' computes, in plain Lean: how a target is told by a base, and back. Conditions: lengths below 2^20. -/
import Derived.Test.YtnaakfnbmeimaaaGreatPressA
import Derived.Test.YtnaakfnbmeimaaaGreatCodeA
import Derived.Test.YtnaakfnbmeimaaaGreatWordsA
import Derived.Deep.QuietTactic
import Derived.BigQuiet
set_option linter.unusedVariables false
namespace Go.Dol
def begins (a b : List UInt8) : Nat:=cnt a.length a b
def ends (a b : List UInt8) : Nat:=begins a.reverse b.reverse
def copyOf (n k : Nat) : List UInt8:=if n = 0 then [] else num (2 * (n - 1) + 1) ++ num k
def blockF (base b : List UInt8) : Nat → Nat → Option Nat
 | 0,_ => none
 | f + 1,k => if k + 16 ≤ base.length then (if (base.drop k).take 16 = b.take 16 then some k else blockF base b f (k + 16)) else none
def blockAt (base b : List UInt8) : Option Nat:=if 16 ≤ b.length then blockF base b base.length 0 else none
def mid (base m : List UInt8) : Nat → Nat → Nat → List UInt8
 | 0,_,frm => runB (m.drop frm)
 | f + 1,i,frm =>
  if i < m.length then
   match blockAt base (m.drop i) with
   | none => mid base m f (i + 1) frm
   | some k => runB ((m.drop frm).take (i - frm)) ++ (copyOf (begins (base.drop k) (m.drop i)) k ++ mid base m f (i + begins (base.drop k) (m.drop i)) (i + begins (base.drop k) (m.drop i)))
  else runB (m.drop frm)
def midL (base m : List UInt8) : List UInt8:=mid base m m.length 0 0
def encL (base target : List UInt8) : List UInt8 :=
 num base.length ++ (num target.length ++ (copyOf (begins base target) 0 ++
  (midL base ((target.drop (begins base target)).take (target.length - begins base target - ends (base.drop (begins base target)) (target.drop (begins base target)))) ++
   copyOf (ends (base.drop (begins base target)) (target.drop (begins base target))) (base.length - ends (base.drop (begins base target)) (target.drop (begins base target))))))
def dF (base : List UInt8) (size : Nat) : Nat → List UInt8 → List UInt8 → Option (List UInt8)
 | _,out,[] => if out.length = size then some out else none
 | 0,_,_ :: _ => none
 | f + 1,out,c :: q =>
  match takeNum (c :: q) with
  | none => none
  | some (t,rest) =>
   if t % 2 = 0 then
    if t / 2 + 1 ≤ size - out.length ∧ t / 2 + 1 ≤ rest.length then dF base size f (out ++ rest.take (t / 2 + 1)) (rest.drop (t / 2 + 1)) else none
   else
    match takeNum rest with
    | none => none
    | some (d,rest2) => if t / 2 + 1 ≤ size - out.length ∧ d + (t / 2 + 1) ≤ base.length then dF base size f (out ++ (base.drop d).take (t / 2 + 1)) rest2 else none
def dGo (base : List UInt8) (size : Nat) (out p : List UInt8) : Option (List UInt8):=dF base size p.length out p
def applyL (base d : List UInt8) (most : Int) : Option (List UInt8) :=
 match takeNum d with
 | none => none
 | some (n,p) =>
  if n = base.length then
   match takeNum p with
   | none => none
   | some (size,q) => if (size : Int) ≤ most then dGo base size [] q else none
  else none
theorem dF_fuel (base : List UInt8) (size : Nat) : ∀ (f g : Nat) (out p : List UInt8),p.length ≤ f → p.length ≤ g → dF base size f out p = dF base size g out p:=by
 intro f
 induction f with
 | zero =>
  intro g out p hf hg
  obtain rfl : p = []:=List.eq_nil_of_length_eq_zero (by omega)
  cases g <;> rfl
 | succ f ih =>
  intro g out p hf hg
  cases p with
  | nil => cases g <;> rfl
  | cons c q =>
   cases g with
   | zero => simp at hg
   | succ g =>
    rw [dF,dF]
    cases ht : takeNum (c :: q) with
    | none => rfl
    | some x =>
     obtain ⟨t,rest⟩:=x
     have hl:=takeNum_less ht
     simp only [List.length_cons] at hl hf hg
     simp only
     split
     ·split
      ·exact ih g _ _ (by rw [List.length_drop]; omega) (by rw [List.length_drop]; omega)
      ·rfl
     ·cases ht2 : takeNum rest with
      | none => rfl
      | some y =>
       obtain ⟨d,rest2⟩:=y
       have hl2:=takeNum_less ht2
       simp only
       split
       ·exact ih g _ _ (by omega) (by omega)
       ·rfl
theorem dGo_nil (base : List UInt8) (size : Nat) (out : List UInt8) : dGo base size out [] = if out.length = size then some out else none:=rfl
theorem dGo_none {base : List UInt8} {size : Nat} {out p : List UInt8} (hp : p ≠ []) (h : takeNum p = none) : dGo base size out p = none:=by
 cases p with
 | nil => exact absurd rfl hp
 | cons c q => unfold dGo; rw [List.length_cons,dF,h]
theorem dGo_run {base : List UInt8} {size : Nat} {out p : List UInt8} {t : Nat} {rest : List UInt8} (h : takeNum p = some (t,rest)) (ht : t % 2 = 0) :
  dGo base size out p = if t / 2 + 1 ≤ size - out.length ∧ t / 2 + 1 ≤ rest.length then dGo base size (out ++ rest.take (t / 2 + 1)) (rest.drop (t / 2 + 1)) else none:=by
 have hl:=takeNum_less h
 cases p with
 | nil => simp at hl
 | cons c q =>
  unfold dGo
  rw [List.length_cons,dF,h]
  simp only
  rw [if_pos ht]
  split
  ·rw [dF_fuel]
   ·rw [List.length_drop,List.length_cons] at *; omega
   ·exact Nat.le_refl _
  ·rfl
theorem dGo_copy {base : List UInt8} {size : Nat} {out p : List UInt8} {t : Nat} {rest : List UInt8} (h : takeNum p = some (t,rest)) (ht : t % 2 = 1) {d : Nat} {rest2 : List UInt8} (h2 : takeNum rest = some (d,rest2)) :
  dGo base size out p = if t / 2 + 1 ≤ size - out.length ∧ d + (t / 2 + 1) ≤ base.length then dGo base size (out ++ (base.drop d).take (t / 2 + 1)) rest2 else none:=by
 have hl:=takeNum_less h
 have hl2:=takeNum_less h2
 cases p with
 | nil => simp at hl
 | cons c q =>
  unfold dGo
  rw [List.length_cons,dF,h]
  simp only
  rw [if_neg (by omega),h2]
  simp only
  split
  ·rw [dF_fuel]
   ·rw [List.length_cons] at *; omega
   ·exact Nat.le_refl _
  ·rfl
theorem dGo_copy_none {base : List UInt8} {size : Nat} {out p : List UInt8} {t : Nat} {rest : List UInt8} (h : takeNum p = some (t,rest)) (ht : t % 2 = 1) (h2 : takeNum rest = none) : dGo base size out p = none:=by
 have hl:=takeNum_less h
 cases p with
 | nil => simp at hl
 | cons c q =>
  unfold dGo
  rw [List.length_cons,dF,h]
  simp only
  rw [if_neg (by omega),h2]
theorem dGo_big {base : List UInt8} {size : Nat} {out p : List UInt8} {t : Nat} {rest : List UInt8} (h : takeNum p = some (t,rest)) (hb : ¬ (t / 2 + 1 ≤ size - out.length)) : dGo base size out p = none:=by
 by_cases he : t % 2 = 0
 ·rw [dGo_run h he,if_neg (fun hh => hb hh.1)]
 ·cases h2 : takeNum rest with
  | none => exact dGo_copy_none h (by omega) h2
  | some y => rw [dGo_copy h (by omega) h2,if_neg (fun hh => hb hh.1)]
theorem begins_le (a b : List UInt8) : begins a b ≤ a.length ∧ begins a b ≤ b.length:=cnt_le _ _ _
theorem begins_same {a b : List UInt8} {j : Nat} (h : j < begins a b) : a[j]? = b[j]?:=cnt_same _ _ _ _ h
theorem begins_ge {a b : List UInt8} {n : Nat} (h1 : n ≤ a.length) (h2 : n ≤ b.length) (h : ∀ j,j < n → a[j]? = b[j]?) : n ≤ begins a b:=cnt_ge _ _ _ _ h1 h1 h2 h
theorem begins_take {a b : List UInt8} {n : Nat} (h : n ≤ begins a b) : a.take n = b.take n:=by
 apply List.ext_getElem?
 intro j
 rw [List.getElem?_take,List.getElem?_take]
 split
 ·exact begins_same (by omega)
 ·rfl
theorem begins_of_take {a b : List UInt8} {n : Nat} (h1 : n ≤ a.length) (h2 : n ≤ b.length) (h : a.take n = b.take n) : n ≤ begins a b:=by
 refine begins_ge h1 h2 fun j hj => ?_
 have:=congrArg (fun l => l[j]?) h
 simp only [List.getElem?_take,if_pos hj] at this
 exact this
theorem ends_le (a b : List UInt8) : ends a b ≤ a.length ∧ ends a b ≤ b.length:=by
 have:=begins_le a.reverse b.reverse
 simpa [ends] using this
theorem ends_drop (a b : List UInt8) : a.drop (a.length - ends a b) = b.drop (b.length - ends a b):=by
 have h : a.reverse.take (ends a b) = b.reverse.take (ends a b):=begins_take (Nat.le_refl _)
 rw [List.take_reverse,List.take_reverse] at h
 exact List.reverse_inj.1 h
theorem blockF_spec {base b : List UInt8} : ∀ (f k k' : Nat),blockF base b f k = some k' → k' + 16 ≤ base.length ∧ (base.drop k').take 16 = b.take 16:=by
 intro f
 induction f with
 | zero => intro k k' h; cases h
 | succ f ih =>
  intro k k' h
  rw [blockF] at h
  split at h
  ·split at h
   ·injection h with h
    subst h
    exact ⟨by assumption,by assumption⟩
   ·exact ih _ _ h
  ·cases h
theorem blockAt_spec {base b : List UInt8} {k : Nat} (h : blockAt base b = some k) : k + 16 ≤ base.length ∧ 16 ≤ begins (base.drop k) b:=by
 unfold blockAt at h
 split at h
 ·have:=blockF_spec _ _ _ h
  exact ⟨this.1,begins_of_take (by rw [List.length_drop]; omega) (by assumption) this.2⟩
 ·cases h
theorem d_run {base : List UInt8} {size : Nat} {out x rest : List UInt8} (hx : x.length ≤ mostLen) (hs : x.length ≤ size - out.length) : dGo base size out (runB x ++ rest) = dGo base size (out ++ x) rest:=by
 by_cases h0 : x = []
 ·subst h0
  simp [runB]
 ·have hp : 0 < x.length:=List.length_pos_iff.2 h0
  unfold runB
  rw [if_neg h0,List.append_assoc]
  have ht:=takeNum_num (2 * (x.length - 1)) (x ++ rest) (by unfold mostNum; unfold mostLen at hx; omega)
  rw [dGo_run ht (by omega),show 2 * (x.length - 1) / 2 + 1 = x.length by omega,if_pos ⟨hs,by rw [List.length_append]; omega⟩,List.take_left,List.drop_left]
theorem d_copy {base : List UInt8} {size n k : Nat} {out rest : List UInt8} (hb : base.length ≤ mostLen) (hs : n ≤ size - out.length) (hk : k + n ≤ base.length) : dGo base size out (copyOf n k ++ rest) = dGo base size (out ++ (base.drop k).take n) rest:=by
 by_cases h0 : n = 0
 ·subst h0
  simp [copyOf]
 ·unfold copyOf
  rw [if_neg h0,List.append_assoc]
  have ht:=takeNum_num (2 * (n - 1) + 1) (num k ++ rest) (by unfold mostNum; unfold mostLen at hb; omega)
  have ht2:=takeNum_num k rest (by unfold mostNum; unfold mostLen at hb; omega)
  rw [dGo_copy ht (by omega) ht2,show (2 * (n - 1) + 1) / 2 + 1 = n by omega,if_pos ⟨hs,hk⟩]
theorem d_mid {base m : List UInt8} {size : Nat} {out rest : List UInt8} (hb : base.length ≤ mostLen) (hm : m.length ≤ mostLen) (hs : out.length + m.length ≤ size) : ∀ (f i frm : Nat),m.length - i ≤ f → frm ≤ i → i ≤ m.length →
  dGo base size (out ++ m.take frm) (mid base m f i frm ++ rest) = dGo base size (out ++ m) rest:=by
 have hend : ∀ frm,frm ≤ m.length → dGo base size (out ++ m.take frm) (runB (m.drop frm) ++ rest) = dGo base size (out ++ m) rest:=fun frm hf => by
  rw [d_run (by rw [List.length_drop]; omega) (by rw [List.length_drop,List.length_append,List.length_take]; omega),List.append_assoc,List.take_append_drop]
 intro f
 induction f with
 | zero => intro i frm h1 h2 h3; rw [mid]; exact hend frm (by omega)
 | succ f ih =>
  intro i frm h1 h2 h3
  rw [mid]
  split
  ·cases hk : blockAt base (m.drop i) with
   | none => exact ih _ _ (by omega) (by omega) (by omega)
   | some k =>
    have hsp:=blockAt_spec hk
    have hl:=begins_le (base.drop k) (m.drop i)
    have htk:=begins_take (a:=base.drop k) (b:=m.drop i) (Nat.le_refl _)
    rw [List.length_drop,List.length_drop] at hl
    simp only [List.append_assoc]
    obtain ⟨g,hg⟩ : ∃ g,g = begins (base.drop k) (m.drop i):=⟨_,rfl⟩
    rw [← hg] at hl hsp htk ⊢
    have e1 : out ++ (m.take frm ++ (m.drop frm).take (i - frm)) = out ++ m.take i:=by
     congr 1
     rw [← List.take_add]
     congr 1
     omega
    have e2 : out ++ (m.take i ++ (base.drop k).take g) = out ++ m.take (i + g):=by
     congr 1
     rw [htk,← List.take_add]
    rw [d_run (by rw [List.length_take,List.length_drop]; omega) (by rw [List.length_take,List.length_drop,List.length_append,List.length_take]; omega),List.append_assoc,e1,
     d_copy hb (by rw [List.length_append,List.length_take]; omega) (by omega),List.append_assoc,e2]
    exact ih _ _ (by omega) (Nat.le_refl _) (by omega)
  ·exact hend frm (by omega)
theorem apply_enc {base target : List UInt8} (hb : base.length ≤ mostLen) (ht : target.length ≤ mostLen) (most : Int) : applyL base (encL base target) most = if (target.length : Int) ≤ most then some target else none:=by
 have hp:=begins_le base target
 have hpt:=begins_take (a:=base) (b:=target) (Nat.le_refl _)
 have he:=ends_le (base.drop (begins base target)) (target.drop (begins base target))
 have hed:=ends_drop (base.drop (begins base target)) (target.drop (begins base target))
 unfold applyL encL
 rw [takeNum_num _ _ (by unfold mostNum; unfold mostLen at hb; omega)]
 simp only
 rw [if_pos trivial,takeNum_num _ _ (by unfold mostNum; unfold mostLen at ht; omega)]
 simp only
 obtain ⟨p,hp'⟩ : ∃ p,p = begins base target:=⟨_,rfl⟩
 rw [← hp'] at hp hpt he hed ⊢
 obtain ⟨e,he'⟩ : ∃ e,e = ends (base.drop p) (target.drop p):=⟨_,rfl⟩
 rw [← he'] at he hed ⊢
 rw [List.length_drop,List.length_drop] at he
 rw [List.length_drop,List.length_drop,List.drop_drop,List.drop_drop,show p + (base.length - p - e) = base.length - e by omega,show p + (target.length - p - e) = target.length - e by omega] at hed
 have hml : ((target.drop p).take (target.length - p - e)).length = target.length - p - e:=by rw [List.length_take,List.length_drop]; omega
 have h1:=d_mid (base:=base) (m:=(target.drop p).take (target.length - p - e)) (size:=target.length) (out:=[] ++ (base.drop 0).take p) (rest:=copyOf e (base.length - e)) hb (by omega)
  (by rw [hml,List.nil_append,List.drop_zero,List.length_take]; omega) ((target.drop p).take (target.length - p - e)).length 0 0 (by omega) (Nat.le_refl _) (Nat.zero_le _)
 have h2:=d_copy (base:=base) (size:=target.length) (n:=e) (k:=base.length - e) (out:=([] ++ (base.drop 0).take p) ++ (target.drop p).take (target.length - p - e)) (rest:=[]) hb
  (by rw [List.length_append,hml,List.nil_append,List.drop_zero,List.length_take]; omega) (by omega)
 rw [List.take_zero,List.append_nil] at h1
 rw [List.append_nil] at h2
 have hall : dGo base target.length [] (copyOf p 0 ++ (midL base ((target.drop p).take (target.length - p - e)) ++ copyOf e (base.length - e))) = some target:=by
  rw [d_copy hb (by simp; omega) (by omega)]
  unfold midL
  rw [h1,h2,dGo_nil]
  have e3 : ([] ++ (base.drop 0).take p) ++ (target.drop p).take (target.length - p - e) ++ (base.drop (base.length - e)).take e = target:=by
   have hlast : (base.drop (base.length - e)).take e = target.drop (target.length - e):=by rw [List.take_of_length_le (by rw [List.length_drop]; omega),hed]
   rw [hlast,List.nil_append,List.drop_zero,hpt,← List.take_add,show p + (target.length - p - e) = target.length - e by omega,List.take_append_drop]
  rw [e3,if_pos rfl]
 rw [hall]
theorem applyL_other {base base' d : List UInt8} {n : Nat} {p : List UInt8} (h : takeNum d = some (n,p)) (hn : n ≠ base'.length) (most : Int) : applyL base' d most = none:=by
 unfold applyL
 rw [h]
 simp only
 rw [if_neg hn]
theorem copyOf_cost4 {n k : Nat} (hn : n ≤ 16777216) (hk : k < 268435456) : (copyOf n k).length ≤ 8:=by
 unfold copyOf
 split
 ·simp
 ·rw [List.length_append]
  have:=num4 (n:=2 * (n - 1) + 1) (by omega)
  have:=num4 hk
  omega
theorem copyOf_cost04 {n : Nat} (hn : n ≤ 16777216) : (copyOf n 0).length ≤ 5:=by
 unfold copyOf
 split
 ·simp
 ·rw [List.length_append]
  have:=num4 (n:=2 * (n - 1) + 1) (by omega)
  have:=num1 (n:=0) (by omega)
  omega
theorem mid_cost4 {base m : List UInt8} (hb : base.length ≤ 16777216) (hm : m.length ≤ 16777216) : ∀ (f i frm : Nat),frm ≤ i → i ≤ m.length → (mid base m f i frm).length ≤ m.length - frm + 4:=by
 have hend : ∀ frm,frm ≤ m.length → (runB (m.drop frm)).length ≤ m.length - frm + 4:=fun frm hf => by
  have:=(runB_cost4 (m.drop frm) (by rw [List.length_drop]; omega)).2.2.2
  rw [List.length_drop] at this
  exact this
 intro f
 induction f with
 | zero => intro i frm h1 h2; rw [mid]; exact hend frm (by omega)
 | succ f ih =>
  intro i frm h1 h2
  rw [mid]
  split
  ·cases hk : blockAt base (m.drop i) with
   | none => exact ih _ _ (by omega) (by omega)
   | some k =>
    have hsp:=blockAt_spec hk
    have hl:=begins_le (base.drop k) (m.drop i)
    rw [List.length_drop,List.length_drop] at hl
    simp only
    obtain ⟨g,hg⟩ : ∃ g,g = begins (base.drop k) (m.drop i):=⟨_,rfl⟩
    rw [← hg] at hl hsp ⊢
    have h3:=ih (i + g) (i + g) (Nat.le_refl _) (by omega)
    have h4:=copyOf_cost4 (n:=g) (k:=k) (by omega) (by omega)
    have h5:=(runB_cost4 ((m.drop frm).take (i - frm)) (by rw [List.length_take,List.length_drop]; omega)).2.2.2
    rw [List.length_take,List.length_drop] at h5
    rw [List.length_append,List.length_append]
    omega
  ·exact hend frm (by omega)
theorem enc_cost4 {base target : List UInt8} (hb : base.length ≤ 16777216) (ht : target.length ≤ 16777216) :
  (encL base target).length ≤ target.length - begins base target - ends (base.drop (begins base target)) (target.drop (begins base target)) + 25:=by
 have hp:=begins_le base target
 have he:=ends_le (base.drop (begins base target)) (target.drop (begins base target))
 unfold encL midL
 obtain ⟨p,hp'⟩ : ∃ p,p = begins base target:=⟨_,rfl⟩
 rw [← hp'] at hp he ⊢
 obtain ⟨e,he'⟩ : ∃ e,e = ends (base.drop p) (target.drop p):=⟨_,rfl⟩
 rw [← he'] at he ⊢
 rw [List.length_drop,List.length_drop] at he
 have hml : ((target.drop p).take (target.length - p - e)).length = target.length - p - e:=by rw [List.length_take,List.length_drop]; omega
 have h1:=mid_cost4 (base:=base) (m:=(target.drop p).take (target.length - p - e)) hb (by omega) ((target.drop p).take (target.length - p - e)).length 0 0 (Nat.le_refl _) (Nat.zero_le _)
 have h2:=copyOf_cost04 (n:=p) (by omega)
 have h3:=copyOf_cost4 (n:=e) (k:=base.length - e) (by omega) (by omega)
 have h4:=num4 (n:=base.length) (by omega)
 have h5:=num4 (n:=target.length) (by omega)
 simp only [List.length_append]
 omega
theorem begins_stop {a b : List UInt8} {n : Nat} (h1 : n ≤ a.length) (h2 : n ≤ b.length) (h : ∀ j,j < n → a[j]? = b[j]?) (hs : n = a.length ∨ n = b.length ∨ a[n]? ≠ b[n]?) : begins a b = n:=by
 have h3:=begins_ge h1 h2 h
 have h4:=begins_le a b
 rcases Nat.lt_or_ge n (begins a b) with h5 | h5
 ·rcases hs with hs | hs | hs
  ·omega
  ·omega
  ·exact absurd (begins_same h5) hs
 ·omega
end Go.Dol
namespace Go.Proofs.YtnaakfnbmeimaaaGreat
open Go.RowKit Go.Dol
def BeginsRel (a b : List UInt8) (w : World) (n : Value) (wr : World) : Prop :=
 ∃ m q : Nat,n = .int .i64 m ∧ m ≤ a.length ∧ m ≤ b.length ∧ Hid (∀ j,j < m → a[j]? = b[j]?) ∧ Hid (wr = w.drewN q)
end Go.Proofs.YtnaakfnbmeimaaaGreat
namespace Go.Proofs.YtnaakfnbmeimaaaGreat
open Go.RowKit Go.Dol
theorem _root_.Go.Dol.Rd.mid {w : World} {B : Nat} {A : Option Addr} {l : List UInt8} {lo n m cap : Nat} (h : Rd w B 1 A l.length (bc l)) (hm : m = n) (h1 : lo + n ≤ l.length) (hc : l.length ≤ cap) (hne : ¬ cap = lo) : Rd w B 1 (A.map fun x => x.add lo) m (bc ((l.drop lo).take n)):=by
 subst hm
 have:=h.cut (lo:=lo) (hi:=lo + m) (by omega) h1 hc
 rw [if_neg hne,Nat.mul_one,Nat.mul_one,bc_drop,bc_take,Nat.add_sub_cancel_left] at this
 exact this
def ApplyRel (base : List UInt8) (size : Nat) (r : Option (List UInt8)) (w : World) (p out : Value) (wr : World) : Prop :=
 ∃ (l o : List UInt8) (A Ao : Option Addr) (c co : Nat),p = .slice A l.length c ∧ out = .slice Ao o.length co ∧ Hid (r = dGo base size o l) ∧ o.length ≤ size ∧ l.length ≤ 140737488355328 ∧
  Seg wr w.heap.size 5 1 A l.length c (bc l) ∧ wr.ownsRow w.heap.size 5 1 (.slice Ao o.length co) o.length (bc o) ∧ Apart A c (.slice Ao o.length co) ∧ Below w.heap.size w wr
end Go.Proofs.YtnaakfnbmeimaaaGreat
namespace Go.Dol
theorem blockF_is {base b : List UInt8} : ∀ (m f k : Nat),base.length ≤ k + f → k + 16 * m + 16 ≤ base.length → (base.drop (k + 16 * m)).take 16 = b.take 16 → (∀ m',m' < m → (base.drop (k + 16 * m')).take 16 ≠ b.take 16) → blockF base b f k = some (k + 16 * m):=by
 intro m
 induction m with
 | zero =>
  intro f k hf h1 h2 _
  cases f with
  | zero => omega
  | succ f => rw [blockF,if_pos (by omega),if_pos (by simpa using h2)]; rfl
 | succ m ih =>
  intro f k hf h1 h2 h3
  cases f with
  | zero => omega
  | succ f =>
   rw [blockF,if_pos (by omega),if_neg (by simpa using h3 0 (by omega)),ih f (k + 16) (by omega) (by omega) (by rw [← h2]; congr 2; omega) fun m' hm' => ?_]
   ·congr 1; omega
   ·have:=h3 (m' + 1) (by omega)
    rw [show k + 16 * (m' + 1) = k + 16 + 16 * m' by omega] at this
    exact this
theorem blockF_none {base b : List UInt8} : ∀ (f k : Nat),(∀ m,k + 16 * m + 16 ≤ base.length → (base.drop (k + 16 * m)).take 16 ≠ b.take 16) → blockF base b f k = none:=by
 intro f
 induction f with
 | zero => intro k _; rfl
 | succ f ih =>
  intro k h
  rw [blockF]
  split
  ·rw [if_neg (by simpa using h 0 (by omega))]
   refine ih _ fun m hm => ?_
   have:=h (m + 1) (by omega)
   rw [show k + 16 * (m + 1) = k + 16 + 16 * m by omega] at this
   exact this
  ·rfl
def kvB (K : List UInt8) : Value:=.agg (bc K).toArray
theorem kvB_inj {K L : List UInt8} (h : kvB K = kvB L) : K = L:=by
 have h1 : bc K = bc L:=by
  have h2 : (bc K).toArray = (bc L).toArray:=by injection h
  simpa using h2
 refine (List.map_inj_right (fun a b hab => ?_)).1 h1
 injection hab with _ hab
 exact UInt8.toNat_inj.1 (by omega)
def Idx (base : List UInt8) (n : Nat) (al : List (Value × Value)) : Prop :=
 (∀ p ∈ al,∃ m,m < n ∧ p = (kvB ((base.drop (16 * m)).take 16),.int .i64 ((16 * m : Nat) : Int)) ∧ ∀ m',m' < m → (base.drop (16 * m')).take 16 ≠ (base.drop (16 * m)).take 16) ∧
 (∀ m,m < n → ∃ v,(kvB ((base.drop (16 * m)).take 16),v) ∈ al)
theorem Idx.nil (base : List UInt8) : Idx base 0 []:=⟨by simp,fun m h => by omega⟩
theorem Idx.met {base : List UInt8} {n : Nat} {al : List (Value × Value)} {v : Value} (h : Idx base n al) (hm : (kvB ((base.drop (16 * n)).take 16),v) ∈ al) : Idx base (n + 1) al:=by
 refine ⟨fun p hp => ?_,fun m hmn => ?_⟩
 ·obtain ⟨m,h1,h2⟩:=h.1 p hp
  exact ⟨m,by omega,h2⟩
 ·rcases Nat.lt_or_ge m n with h1 | h1
  ·exact h.2 m h1
  ·obtain rfl : m = n:=by omega
   exact ⟨v,hm⟩
theorem Idx.put {base : List UInt8} {n : Nat} {al al' : List (Value × Value)} (h : Idx base n al) (hn : ∀ p ∈ al,p.1 ≠ kvB ((base.drop (16 * n)).take 16)) (hp : MPut al (kvB ((base.drop (16 * n)).take 16)) (.int .i64 ((16 * n : Nat) : Int)) al') : Idx base (n + 1) al':=by
 rcases hp with ⟨_,rfl⟩ | ⟨l,r,u0,rfl,rfl⟩
 ·refine ⟨fun p hp => ?_,fun m hmn => ?_⟩
  ·rcases List.mem_append.1 hp with hp | hp
   ·obtain ⟨m,h1,h2⟩:=h.1 p hp
    exact ⟨m,by omega,h2⟩
   ·refine ⟨n,by omega,by simpa using hp,fun m' hm' e => ?_⟩
    obtain ⟨v,hv⟩:=h.2 m' hm'
    exact hn _ hv (by rw [e])
  ·rcases Nat.lt_or_ge m n with h1 | h1
   ·obtain ⟨v,hv⟩:=h.2 m h1
    exact ⟨v,List.mem_append.2 (.inl hv)⟩
   ·obtain rfl : m = n:=by omega
    exact ⟨.int .i64 ((16 * m : Nat) : Int),List.mem_append.2 (.inr (List.mem_singleton.2 rfl))⟩
 ·exact absurd rfl (hn (kvB ((base.drop (16 * n)).take 16),u0) (by simp))
theorem Idx.hit {base b : List UInt8} {n : Nat} {al : List (Value × Value)} {v : Value} (h : Idx base n al) (hn : 16 * n ≤ base.length) (hb : 16 ≤ b.length) (hv : (kvB (b.take 16),v) ∈ al) : ∃ k : Nat,v = .int .i64 (k : Nat) ∧ blockAt base b = some k:=by
 obtain ⟨m,h1,h2,h3⟩:=h.1 _ hv
 injection h2 with h2 h4
 have e:=kvB_inj h2
 refine ⟨16 * m,h4,?_⟩
 unfold blockAt
 rw [if_pos hb]
 have:=blockF_is (base:=base) (b:=b) m base.length 0 (by omega) (by omega) (by rw [Nat.zero_add,e]) fun m' hm' => by rw [Nat.zero_add,e]; exact h3 m' hm'
 rw [this,Nat.zero_add]
theorem Idx.miss {base b : List UInt8} {n : Nat} {al : List (Value × Value)} (h : Idx base n al) (hn : base.length < 16 * n + 16) (hv : ∀ p ∈ al,p.1 ≠ kvB (b.take 16)) : blockAt base b = none:=by
 unfold blockAt
 split
 ·refine blockF_none _ _ fun m hm e => ?_
  rw [Nat.zero_add] at hm e
  obtain ⟨v,hv'⟩:=h.2 m (by omega)
  exact hv _ hv' (by rw [← e])
 ·rfl
end Go.Dol
namespace Go.Proofs.YtnaakfnbmeimaaaGreat
open Go.RowKit Go.Dol
end Go.Proofs.YtnaakfnbmeimaaaGreat
namespace Go.Dol
open Go.RowKit
theorem mid_fuel (base m : List UInt8) : ∀ (f g i frm : Nat),m.length - i ≤ f → m.length - i ≤ g → mid base m f i frm = mid base m g i frm:=by
 intro f
 induction f with
 | zero =>
  intro g i frm h1 h2
  cases g with
  | zero => rfl
  | succ g => rw [mid,mid,if_neg (by omega)]
 | succ f ih =>
  intro g i frm h1 h2
  cases g with
  | zero => rw [mid,mid,if_neg (by omega)]
  | succ g =>
   rw [mid,mid]
   split
   ·cases hk : blockAt base (m.drop i) with
    | none => exact ih g _ _ (by omega) (by omega)
    | some k =>
     have hsp:=blockAt_spec hk
     simp only
     rw [ih g _ _ (by omega) (by omega)]
   ·rfl
def midG (base m : List UInt8) (i frm : Nat) : List UInt8:=mid base m (m.length - i) i frm
theorem midL_is (base m : List UInt8) : midL base m = midG base m 0 0:=rfl
theorem midG_end {base m : List UInt8} {i frm : Nat} (h : m.length ≤ i) : midG base m i frm = runB (m.drop frm):=by
 unfold midG
 rw [show m.length - i = 0 by omega]
 rfl
theorem midG_next {base m : List UInt8} {i frm : Nat} (h : i < m.length) (hk : blockAt base (m.drop i) = none) : midG base m i frm = midG base m (i + 1) frm:=by
 unfold midG
 rw [show m.length - i = (m.length - (i + 1)) + 1 by omega,mid,if_pos h,hk]
theorem midG_copy {base m : List UInt8} {i frm k : Nat} (h : i < m.length) (hk : blockAt base (m.drop i) = some k) :
  midG base m i frm = runB ((m.drop frm).take (i - frm)) ++ (copyOf (begins (base.drop k) (m.drop i)) k ++ midG base m (i + begins (base.drop k) (m.drop i)) (i + begins (base.drop k) (m.drop i))):=by
 have hsp:=blockAt_spec hk
 unfold midG
 rw [show m.length - i = (m.length - (i + 1)) + 1 by omega,mid,if_pos h,hk]
 simp only
 rw [mid_fuel base m _ (m.length - (i + begins (base.drop k) (m.drop i))) _ _ (by omega) (Nat.le_refl _)]
theorem midG_short {base m : List UInt8} : ∀ (d i frm : Nat),m.length - i ≤ d → m.length < i + 16 → midG base m i frm = runB (m.drop frm):=by
 intro d
 induction d with
 | zero => intro i frm h1 h2; exact midG_end (by omega)
 | succ d ih =>
  intro i frm h1 h2
  rcases Nat.lt_or_ge i m.length with h | h
  ·rw [midG_next h (by unfold blockAt; rw [if_neg (by rw [List.length_drop]; omega)])]
   exact ih _ _ (by omega) (by omega)
  ·exact midG_end h
theorem enc_parts (base target : List UInt8) {p e : Nat} (hp : p = begins base target) (he : e = ends (base.drop p) (target.drop p)) :
  encL base target = num base.length ++ (num target.length ++ (copyOf p 0 ++ (midG base ((target.drop p).take (target.length - p - e)) 0 0 ++ copyOf e (base.length - e)))):=by
 subst hp
 subst he
 rfl
section
variable {P : Program} {w : World} {B : Nat} {A : Option Addr} {l : List UInt8} {c : Nat} {t e : TypeId}
end
end Go.Dol
namespace Go.Proofs.YtnaakfnbmeimaaaGreat
open Go.RowKit Go.Dol
theorem clampN_ofD {k : Nat} (h : k ≤ 4611686018427387903) : clampN (k : Int) = k:=by unfold clampN; omega
theorem _root_.Go.Dol.Rd.aliveD {w w' : World} {A : Option Addr} {n : Nat} {xs : List Value} {size : Nat} (h : Rd w w.heap.size size A n xs) (hb : Below w.heap.size w w') : Rd w' w'.heap.size size A n xs:=(h.below hb).more hb.size
end Go.Proofs.YtnaakfnbmeimaaaGreat
