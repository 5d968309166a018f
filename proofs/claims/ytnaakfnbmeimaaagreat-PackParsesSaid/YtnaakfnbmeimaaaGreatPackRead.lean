/- Plain laws of reading a pack's parts one behind the other. No program is in sight. Conditions: none. -/
import Derived.Test.YtnaakfnbmeimaaaGreatPackSpec
set_option linter.unusedVariables false
namespace Go.Dol
def lastRaw (prev : List UInt8) (ps : List Pt) : List UInt8:=match ps.getLast? with | none => prev | some p => p.raw
def lastD (d : Nat) (ps : List Pt) : Nat:=match ps.getLast? with | none => d | some p => p.depth
theorem lastRaw_cons (prev : List UInt8) (p : Pt) (ps : List Pt) : lastRaw prev (p :: ps) = lastRaw p.raw ps:=by
 unfold lastRaw
 cases ps with
 | nil => rfl
 | cons a b => rw [List.getLast?_cons_cons,List.getLast?_cons]
theorem lastD_cons (d : Nat) (p : Pt) (ps : List Pt) : lastD d (p :: ps) = lastD p.depth ps:=by
 unfold lastD
 cases ps with
 | nil => rfl
 | cons a b => rw [List.getLast?_cons_cons,List.getLast?_cons]
theorem lastRaw_snoc (prev : List UInt8) (p : Pt) (ps : List Pt) : lastRaw prev (ps ++ [p]) = p.raw:=by simp [lastRaw]
theorem lastD_snoc (d : Nat) (p : Pt) (ps : List Pt) : lastD d (ps ++ [p]) = p.depth:=by simp [lastD]
theorem read_add {ge : ByteArray → ByteArray → Bool} (k : Nat) : ∀ (i : Nat) (prev : List UInt8) (d : Nat) (l : List UInt8),readPts ge (i + k) prev d l = match readPts ge i prev d l with
  | none => none
  | some (ps,r) => match readPts ge k (lastRaw prev ps) (lastD d ps) r with
   | none => none
   | some (qs,r') => some (ps ++ qs,r')
 | 0,prev,d,l => by
  rw [Nat.zero_add]
  show _ = match readPts ge k prev d l with | none => none | some (qs,r') => some ([] ++ qs,r')
  cases readPts ge k prev d l with
  | none => rfl
  | some x => rfl
 | i + 1,prev,d,l => by
  have e : i + 1 + k = (i + k) + 1:=by omega
  rw [e,readPts,readPts]
  cases h1 : onePt ge 1099511627776 prev d l with
  | none => rfl
  | some x =>
   obtain ⟨p,rest⟩:=x
   simp only
   rw [read_add k i p.raw p.depth rest]
   cases h2 : readPts ge i p.raw p.depth rest with
   | none => rfl
   | some y =>
    obtain ⟨ps,r⟩:=y
    simp only
    rw [lastRaw_cons,lastD_cons]
    cases readPts ge k (lastRaw p.raw ps) (lastD p.depth ps) r with
    | none => rfl
    | some z => rfl
section
variable {ge : ByteArray → ByteArray → Bool} {i n : Nat} {l r : List UInt8} {ps : List Pt}
theorem read_snoc (h : readPts ge i [] 0 l = some (ps,r)) {p : Pt} {rest : List UInt8} (h1 : onePt ge 1099511627776 (lastRaw [] ps) (lastD 0 ps) r = some (p,rest)) : readPts ge (i + 1) [] 0 l = some (ps ++ [p],rest):=by
 rw [read_add,h]
 simp only
 rw [readPts,h1]
 rfl
theorem read_fails (h : readPts ge i [] 0 l = some (ps,r)) (hi : i < n) (h1 : onePt ge 1099511627776 (lastRaw [] ps) (lastD 0 ps) r = none) : readPts ge n [] 0 l = none:=by
 obtain ⟨k,rfl⟩ : ∃ k,n = i + (k + 1):=⟨n - i - 1,by omega⟩
 rw [read_add,h]
 simp only
 rw [readPts,h1]
theorem read_twice (h : readPts ge i [] 0 l = some (ps,r)) (hi : i < n) {p : Pt} {rest : List UInt8} (h1 : onePt ge 1099511627776 (lastRaw [] ps) (lastD 0 ps) r = some (p,rest)) (h2 : p.id ∈ ps.map (·.id)) {qs : List Pt} {r' : List UInt8} (h3 : readPts ge n [] 0 l = some (qs,r')) : ¬ (qs.map (·.id)).Nodup:=by
 obtain ⟨k,rfl⟩ : ∃ k,n = (i + 1) + k:=⟨n - i - 1,by omega⟩
 rw [read_add,read_snoc h h1] at h3
 simp only at h3
 split at h3
 ·cases h3
 ·injection h3 with h3
  injection h3 with h3 _
  subst h3
  rw [List.append_assoc,List.map_append,List.singleton_append,List.map_cons,List.nodup_append]
  intro h4
  obtain ⟨q,hq,e⟩:=List.mem_map.1 h2
  exact h4.2.2 q.id (List.mem_map.2 ⟨q,hq,rfl⟩) p.id (List.mem_cons_self ..) e
end
theorem onePt_some {ge : ByteArray → ByteArray → Bool} {most : Int} {prev : List UInt8} {d : Nat} {l : List UInt8} {p : Pt} {rest : List UInt8} (h : onePt ge most prev d l = some (p,rest)) (hd : d ≤ 7) : isObjL ge p.raw = true ∧ p.depth ≤ 7 ∧ rest.length ≤ l.length ∧ p.id = sumOf p.raw:=by
 unfold onePt at h
 split at h
 ·cases h
 ·rename_i k q hkq
  split at h
  ·cases h
  ·rename_i t rest' ht
   split at h
   ·cases h
   ·rename_i raw hraw
    split at h
    ·rename_i hc
     injection h with h
     injection h with h1 h2
     subst h1 h2
     refine ⟨hc.2,?_,?_,hc.1.symm⟩
     ·show nextD d k.toNat ≤ 7
      unfold nextD
      split
      ·rename_i hk
       unfold openP at hraw
       rw [if_neg (by omega),if_neg (by omega),if_pos hk] at hraw
       split at hraw
       ·rename_i h7; omega
       ·cases hraw
      ·omega
     ·have h3:=congrArg List.length (text_takeText ht).1
      rw [List.length_append] at h3
      have h4:=congrArg List.length hkq
      rw [List.length_drop,List.length_cons] at h4
      omega
    ·cases h
end Go.Dol
