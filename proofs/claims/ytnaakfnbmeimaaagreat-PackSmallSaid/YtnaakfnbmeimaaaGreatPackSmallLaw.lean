/- What the law PackSmall says, in plain Lean: blobs, each told by the one ahead; and an edit in memory. Conditions: none. -/
import Derived.Test.YtnaakfnbmeimaaaGreatPackLaw
import Derived.Test.YtnaakfnbmeimaaaGreatWordsA
namespace Go.Dol
open Go.RowKit
set_option linter.unusedVariables false
theorem near_mono {D D' : Nat} (h : D ≤ D') : ∀ (rs : List (List UInt8)) (p : List UInt8), near D p rs → near D' p rs
  | [], _, _ => trivial
  | r :: rs, p, hn => by
    obtain ⟨h1, h2, h3, h4⟩ := hn
    exact ⟨h1, h2, by omega, near_mono h rs r h4⟩
def lastL : List UInt8 → List (List UInt8) → List UInt8
  | p, [] => p
  | _, r :: rs => lastL r rs
theorem near_snoc {D : Nat} {x : List UInt8} : ∀ (rs : List (List UInt8)) (p : List UInt8), near D p rs → 0 < (lastL p rs).length → (lastL p rs).head? = x.head? → (encL (lastL p rs) x).length ≤ D → near D p (rs ++ [x])
  | [], p, _, h1, h2, h3 => ⟨h1, h2, h3, trivial⟩
  | r :: rs, p, hn, h1, h2, h3 => by
    obtain ⟨a1, a2, a3, a4⟩ := hn
    exact ⟨a1, a2, a3, near_snoc rs r a4 h1 h2 h3⟩
theorem lastL_snoc {x : List UInt8} : ∀ (rs : List (List UInt8)) (p : List UInt8), lastL p (rs ++ [x]) = x
  | [], _ => rfl
  | r :: rs, _ => lastL_snoc rs r
/-- What holds of the objects that were made: the last one is the data's, each is told in few bytes, none is long. -/
def SmallOk (ls : List (List UInt8)) (data : List UInt8) (most d : Nat) : Prop := ∃ r rs, ls = r :: rs ∧ near (d + 40) r rs ∧ lastL r rs = 1 :: data ∧ ∀ q ∈ r :: rs, q.length ≤ most + 1
theorem small_start (data : List UInt8) : SmallOk [1 :: data] data data.length 0 := ⟨_, [], rfl, trivial, rfl, fun q hq => by
  obtain rfl := List.mem_singleton.1 hq
  simp⟩
theorem small_step {ls : List (List UInt8)} {data run next : List UInt8} {most d p q : Nat} (h : SmallOk ls data most d) (hpq : p ≤ q) (hq : q ≤ data.length) (hb : data.length + 1 + run.length ≤ 1048576) (hn : next = data.take p ++ (run ++ data.drop q)) :
    SmallOk (ls ++ [1 :: next]) next (max most next.length) (max d run.length) := by
  obtain ⟨r, rs, rfl, h1, h2, h3⟩ := h
  refine ⟨r, rs ++ [1 :: next], rfl, ?_, lastL_snoc _ _, fun q hq => ?_⟩
  · refine near_snoc _ _ (near_mono (by omega) _ _ h1) (by rw [h2]; simp) (by rw [h2]; rfl) ?_
    rw [h2, hn]
    have := enc_blob (run := run) hpq hq hb
    omega
  · rw [← List.cons_append] at hq
    rcases List.mem_append.1 hq with hq | hq
    · have := h3 q hq; omega
    · obtain rfl := List.mem_singleton.1 hq
      simp only [List.length_cons]
      omega
theorem small_end {ls : List (List UInt8)} {data : List UInt8} {most d : Nat} (h : SmallOk ls data most d) : szs (ptsOf [] 0 ls) ≤ (ls.length + 7) / 8 * (most + 1) + ls.length * (d + 40) := by
  obtain ⟨r, rs, rfl, h1, h2, h3⟩ := h
  have := small_pack (most + 1) (d + 40) r rs h1 h3
  rw [Nat.mul_comm (most + 1), Nat.mul_comm (d + 40)] at this
  exact this
/-- A run that takes the place of another one, and where it lies. -/
structure EdA where
  at' : Int
  gone : Int
  A : Option Addr
  l : List UInt8
  c : Nat
def EdA.cells (x : EdA) : List Value := [.int .i64 x.at', .int .i64 x.gone, .slice x.A x.l.length x.c]
def edc (l : List EdA) : List Value := l.flatMap EdA.cells
theorem edc_get : ∀ {l : List EdA} {i : Nat} {x : EdA}, l[i]? = some x → ∀ j, j < 3 → (edc l)[i * 3 + j]? = x.cells[j]?
  | [], i, x, h, _, _ => by simp at h
  | y :: l, 0, x, h, j, hj => by
    have hx : y = x := by simpa using h
    subst hx
    rw [edc, List.flatMap_cons, Nat.zero_mul, Nat.zero_add, List.getElem?_append_left (by show j < 3; omega)]
  | y :: l, i + 1, x, h, j, hj => by
    rw [edc, List.flatMap_cons, List.getElem?_append_right (by show 3 ≤ _; omega)]
    have e : (i + 1) * 3 + j - y.cells.length = i * 3 + j := by show (i + 1) * 3 + j - 3 = _; omega
    rw [e]
    exact edc_get (l := l) (by simpa using h) j hj
theorem edc_length (l : List EdA) : (edc l).length = l.length * 3 := by
  induction l with
  | nil => rfl
  | cons x l ih => rw [edc, List.flatMap_cons, List.length_append, List.length_cons]; show 3 + (edc l).length = _; rw [ih]; omega
/-- Edits that read. -/
def Eds (w : World) (B : Nat) (l : List EdA) : Prop := ∀ x ∈ l, Rd w B 1 x.A x.l.length (bc x.l) ∧ x.l.length ≤ x.c ∧ x.c ≤ maxLen
/-- Sizes of parts, one behind the other. -/
theorem szs_take {l : List Pt} {k : Nat} {p : Pt} (h : l[k]? = some p) : szs (l.take (k + 1)) = szs (l.take k) + p.size := by
  obtain ⟨hk, e⟩ := List.getElem?_eq_some_iff.1 h
  rw [List.take_succ_eq_append_getElem hk, e]
  generalize l.take k = m
  induction m with
  | nil => simp [szs_cons, szs_nil]
  | cons a m ih => rw [List.cons_append, szs_cons, szs_cons, ih]; omega
theorem szs_mono {l : List Pt} (k : Nat) : szs (l.take k) ≤ szs l := by
  induction l generalizing k with
  | nil => simp
  | cons a l ih =>
    cases k with
    | zero => simp [szs_nil]
    | succ k => rw [List.take_succ_cons, szs_cons, szs_cons]; have := ih k; omega
end Go.Dol
