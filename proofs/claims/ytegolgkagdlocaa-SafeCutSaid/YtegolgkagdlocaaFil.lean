/- Files as they lie in memory, one behind the other: of two cells each. Conditions: none beyond what each law names. -/
import Derived.Test.YtegolgkagdlocaaDiskLaw
import Derived.Test.YtegolgkagdlocaaFar
namespace Go.Proofs.Ytegolgkagdlocaa
open Go.RowKit Go.Dol
set_option linter.unusedVariables false
/-- A file, and the slice that its bytes are. -/
structure FilA where
  n : ByteArray
  b : List UInt8
  A : Option Addr
  c : Nat
def FilA.f (x : FilA) : Fil := (x.n, x.b)
def FilA.cells (x : FilA) : List Value := [.string x.n, .slice x.A x.b.length x.c]
def fc (l : List FilA) : List Value := l.flatMap FilA.cells
theorem fc_length (l : List FilA) : (fc l).length = l.length * 2 := by
  induction l with
  | nil => rfl
  | cons x r ih =>
    show (x.cells ++ fc r).length = _
    rw [List.length_append, ih, List.length_cons]
    show 2 + _ = _
    omega
theorem fc_append (a b : List FilA) : fc (a ++ b) = fc a ++ fc b := by simp [fc]
theorem fc_one (l : List FilA) : ∀ u ∈ fc l, u.oneCell' = true := by
  intro u hu
  obtain ⟨x, _, hx⟩ := List.mem_flatMap.1 hu
  rcases List.mem_cons.1 hx with rfl | hx
  · rfl
  · obtain rfl := List.mem_singleton.1 hx
    rfl
theorem fc_get {l : List FilA} {k : Nat} {x : FilA} (h : l[k]? = some x) : (fc l)[k * 2]? = some (.string x.n) ∧ (fc l)[k * 2 + 1]? = some (.slice x.A x.b.length x.c) := by
  induction l generalizing k with
  | nil => cases h
  | cons y r ih =>
    cases k with
    | zero =>
      have : y = x := by simpa using h
      subst this
      exact ⟨rfl, rfl⟩
    | succ k =>
      have h' : r[k]? = some x := by simpa using h
      have e1 : (fc (y :: r))[(k + 1) * 2]? = (fc r)[k * 2]? := by
        show (y.cells ++ fc r)[_]? = _
        rw [List.getElem?_append_right (by show 2 ≤ _; omega)]
        congr 1
        show (k + 1) * 2 - 2 = _
        omega
      have e2 : (fc (y :: r))[(k + 1) * 2 + 1]? = (fc r)[k * 2 + 1]? := by
        show (y.cells ++ fc r)[_]? = _
        rw [List.getElem?_append_right (by show 2 ≤ _; omega)]
        congr 1
        show (k + 1) * 2 + 1 - 2 = _
        omega
      rw [e1, e2]
      exact ih h'
theorem fc_take (l : List FilA) (k : Nat) : (fc l).take (k * 2) = fc (l.take k) := by
  induction l generalizing k with
  | nil => simp [fc]
  | cons y r ih =>
    cases k with
    | zero => simp [fc]
    | succ k =>
      rw [List.take_succ_cons]
      show (y.cells ++ fc r).take _ = y.cells ++ fc (r.take k)
      rw [List.take_append, ← ih]
      congr 1
      · exact List.take_of_length_le (by show 2 ≤ _; omega)
      · congr 1
        show (k + 1) * 2 - 2 = _
        omega
theorem fc_drop (l : List FilA) (k : Nat) : (fc l).drop (k * 2) = fc (l.drop k) := by
  induction l generalizing k with
  | nil => simp [fc]
  | cons y r ih =>
    cases k with
    | zero => simp
    | succ k =>
      rw [List.drop_succ_cons, ← ih]
      show (y.cells ++ fc r).drop _ = _
      rw [List.drop_append]
      rw [List.drop_eq_nil_of_le (by show 2 ≤ _; omega), List.nil_append]
      congr 1
      show (k + 1) * 2 - 2 = _
      omega
/-- A file that was just made. -/
theorem Rd.fileT (w : World) (T : TypeId) (x : FilA) : Rd (w.alloc (.cells #[.string x.n, .slice x.A x.b.length x.c] T)) (w.heap.size + 1) 2 (some ⟨w.heap.size, 0, none⟩) 1 (fc [x]) := by
  have hB := Blk.new w T x.cells
  refine ⟨rfl, fun _ => ⟨w.heap.size, 0, rfl, by omega, fun j u hu => ?_⟩⟩
  rw [Nat.zero_add]
  have e : fc [x] = x.cells := by simp [fc]
  rw [e] at hu
  exact (hB.cell j).trans hu
/-- Files whose bytes read. -/
def Fls8 (w : World) (B : Nat) (l : List FilA) : Prop := ∀ x ∈ l, Far w B x.A x.b ∧ x.b.length ≤ x.c ∧ x.c ≤ maxLen
theorem Fls8.below {w w' : World} {B : Nat} {l : List FilA} (h : Fls8 w B l) (hb : Below w.heap.size w w') : Fls8 w' B l := fun x hx => ⟨(h x hx).1.below hb, (h x hx).2⟩
theorem Fls8.keep {w w' : World} {B : Nat} {l : List FilA} (h : Fls8 w B l) {row : Option Nat} (hg : w.grownBy w' row) (hr : Other w B row) : Fls8 w' B l := fun x hx => ⟨(h x hx).1.keep hg hr, (h x hx).2⟩
theorem Far.more {w : World} {B B' : Nat} {A : Option Addr} {l : List UInt8} (h : Far w B A l) (hB : B ≤ B') : Far w B' A l := ⟨h.1, fun h0 k hk => by
  rcases h.2 h0 k hk with h1 | h1
  · exact .inl (by omega)
  · exact .inr h1⟩
theorem Fls8.more {w : World} {B B' : Nat} {l : List FilA} (h : Fls8 w B l) (hB : B ≤ B') : Fls8 w B' l := fun x hx => ⟨(h x hx).1.more hB, (h x hx).2⟩
theorem fmap_take (l : List FilA) (k : Nat) : (l.take k).map FilA.f = (l.map FilA.f).take k := List.map_take
end Go.Proofs.Ytegolgkagdlocaa
namespace Go.Dol
/-- Files are loaded one behind the other, onto those that are there. -/
def loadL : List Fil → List Fil → Option (List Fil)
  | acc, [] => some acc
  | acc, f :: r => if nameB f.1 = false ∨ (lookF acc f.1).isSome = true then none else loadL (putF acc f.1 f.2) r
theorem loadL_none {acc l r : List Fil} (h : loadL acc l = none) : loadL acc (l ++ r) = none := by
  induction l generalizing acc with
  | nil => cases h
  | cons f q ih =>
    unfold loadL at h
    show (if nameB f.1 = false ∨ (lookF acc f.1).isSome = true then none else loadL (putF acc f.1 f.2) (q ++ r)) = none
    split at h
    · rw [if_pos (by assumption)]
    · rw [if_neg (by assumption)]
      exact ih h
theorem loadL_snoc {acc l m : List Fil} (h : loadL acc l = some m) (f : Fil) : loadL acc (l ++ [f]) = if nameB f.1 = false ∨ (lookF m f.1).isSome = true then none else some (putF m f.1 f.2) := by
  induction l generalizing acc with
  | nil =>
    have : acc = m := by simpa [loadL] using h
    subst this
    rfl
  | cons g q ih =>
    unfold loadL at h
    show (if nameB g.1 = false ∨ (lookF acc g.1).isSome = true then none else loadL (putF acc g.1 g.2) (q ++ [f])) = _
    split at h
    · cases h
    · rw [if_neg (by assumption)]
      exact ih h
theorem loadL_order {acc l m : List Fil} (h : loadL acc l = some m) (ho : InOrder acc) : InOrder m := by
  induction l generalizing acc with
  | nil =>
    have : acc = m := by simpa [loadL] using h
    subst this
    exact ho
  | cons g q ih =>
    unfold loadL at h
    split at h
    · cases h
    · exact ih h (put_order ho)
theorem loadL_names {acc l m : List Fil} (h : loadL acc l = some m) (ho : ∀ f ∈ acc, nameB f.1 = true) : ∀ f ∈ m, nameB f.1 = true := by
  induction l generalizing acc with
  | nil =>
    have : acc = m := by simpa [loadL] using h
    subst this
    exact ho
  | cons g q ih =>
    unfold loadL at h
    split at h
    · cases h
    · rename_i h1
      refine ih h (names_put ho ?_ _)
      cases hB : nameB g.1 with
      | true => rfl
      | false => exact absurd (.inl hB) h1
theorem loadL_costs {acc l m : List Fil} (h : loadL acc l = some m) (ho : InOrder acc) : costs m = costs acc + costs l := by
  induction l generalizing acc with
  | nil =>
    have : acc = m := by simpa [loadL] using h
    subst this
    simp [costs]
  | cons g q ih =>
    unfold loadL at h
    split at h
    · cases h
    · rename_i h1
      rw [ih h (put_order ho), costs_putF ho]
      cases hl : lookF acc g.1 with
      | some c => exact absurd (.inr (by rw [hl]; rfl)) h1
      | none =>
        simp only [costs, costF]
        omega
theorem costs_take (l : List Fil) (k : Nat) : costs (l.take k) ≤ costs l := by
  have h1 := List.take_append_drop k l
  have h2 := costs_append (l.take k) (l.drop k)
  rw [h1] at h2
  have := costs_nonneg (l.drop k)
  omega
theorem costs_mem {l : List Fil} {f : Fil} (h : f ∈ l) : costF f ≤ costs l := by
  obtain ⟨a, b, rfl⟩ := List.append_of_mem h
  have h1 := costs_append a (f :: b)
  have h2 := costs_nonneg a
  have h3 := costs_nonneg b
  simp only [costs] at h1
  omega
theorem costs_len (l : List Fil) : 16 * (l.length : Int) ≤ costs l := by
  induction l with
  | nil => exact Int.le_refl _
  | cons f r ih =>
    have := costF_pos f
    simp only [costs, List.length_cons]
    omega
/-- Which disk files are. -/
def loadD (cap : Int) (l : List Fil) : Option Dk × Int :=
  if cap < 0 ∨ 1099511627776 < cap then (none, 1) else match loadL [] l with
    | none => (none, 1)
    | some m => if frD ⟨cap, m, 0, -1, false⟩ < 0 then (none, 4) else (some ⟨cap, m, 0, -1, false⟩, 0)
end Go.Dol
