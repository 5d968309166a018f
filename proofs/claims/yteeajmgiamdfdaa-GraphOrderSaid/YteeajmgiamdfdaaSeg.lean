/- A slice that the call owns, wherever it begins in its row; append onto it, of a slice or of a text. Conditions: none beyond what each law names. -/
import Derived.Test.YteeajmgiamdfdaaWords2
import Derived.Deep.AppendSrc
namespace Go.Dol
open Go.RowKit

/-- The slice (A, n, c) lies in a row of the call's own (blocks from base on), wherever it begins; its elements are the cells xs. -/
def Seg (w : World) (base : Nat) (e : TypeId) (size : Nat) (A : Option Addr) (n c : Nat) (xs : List Value) : Prop :=
  xs.length = n * size ∧ n ≤ c ∧ c ≤ maxLen ∧
  (c = 0 ∨ ∃ g off cur, A = some ⟨g, off, none⟩ ∧ base ≤ g ∧ w.heap[g]? = some (.cells cur e (0, 0)) ∧ off + c * size ≤ cur.size ∧ (cur.toList.drop off).take (n * size) = xs)

/-- Its block; the row that an append onto it may write. -/
def segBlock (A : Option Addr) : Option Nat := A.map (·.block)
def segRow (A : Option Addr) (c : Nat) : Option Nat := if 0 < c then segBlock A else none

section
variable {w w' : World} {base base' : Nat} {e : TypeId} {size : Nat} {A : Option Addr} {n c : Nat} {xs : List Value}

theorem Seg.of_own (h : w.ownsRow base e size (.slice A n c) n xs) : Seg w base e size A n c xs := by
  refine ⟨h.1, ?_⟩
  rcases h.2 with ⟨h1, rfl⟩ | ⟨g, cap, cur, h1, h2, h3, h4, h5, h6, h7⟩
  · injection h1 with _ _ hc
    subst hc
    exact ⟨Nat.le_refl _, by unfold maxLen; omega, .inl rfl⟩
  · injection h1 with hA _ hc
    subst hc
    exact ⟨h4, h5, .inr ⟨g, 0, cur, hA, h2, h3, by omega, by simpa using h7⟩⟩
theorem Seg.nil : Seg w base e size A 0 0 [] := ⟨by simp, Nat.le_refl _, by unfold maxLen; omega, .inl rfl⟩
theorem Seg.lower (h : Seg w base e size A n c xs) (hb : base' ≤ base) : Seg w base' e size A n c xs := by
  obtain ⟨h1, h2, h3, h4⟩ := h
  refine ⟨h1, h2, h3, ?_⟩
  rcases h4 with h4 | ⟨g, off, cur, a1, a2, a3⟩
  · exact .inl h4
  · exact .inr ⟨g, off, cur, a1, by omega, a3⟩
theorem Seg.lt (h : Seg w base e size A n c xs) (hc : 0 < c) : ∃ g, segBlock A = some g ∧ base ≤ g ∧ g < w.heap.size := by
  rcases h.2.2.2 with h4 | ⟨g, off, cur, rfl, a2, a3, _⟩
  · omega
  · exact ⟨g, rfl, a2, (Array.getElem?_eq_some_iff.1 a3).1⟩
theorem Seg.row (h : Seg w base e size A n c xs) : ∀ g, segRow A c = some g → base ≤ g ∧ g < w.heap.size := by
  intro g hg
  unfold segRow at hg
  split at hg
  · obtain ⟨g', h1, h2, h3⟩ := h.lt (by assumption)
    rw [h1] at hg
    injection hg with hg
    subst hg
    exact ⟨h2, h3⟩
  · cases hg
theorem Seg.keepB (h : Seg w base e size A n c xs) (hk : ∀ g, segBlock A = some g → g < w.heap.size → w'.heap[g]? = w.heap[g]?) : Seg w' base e size A n c xs := by
  obtain ⟨h1, h2, h3, h4⟩ := h
  refine ⟨h1, h2, h3, ?_⟩
  rcases h4 with h4 | ⟨g, off, cur, rfl, a2, a3, a4⟩
  · exact .inl h4
  · exact .inr ⟨g, off, cur, rfl, a2, (hk g rfl (Array.getElem?_eq_some_iff.1 a3).1).trans a3, a4⟩
theorem Seg.below {B : Nat} (h : Seg w base e size A n c xs) (hb : Below B w w') (hB : ∀ g, segBlock A = some g → g < B) : Seg w' base e size A n c xs := h.keepB fun g hg _ => hb.block g (hB g hg)
theorem Seg.belowW (h : Seg w base e size A n c xs) (hb : Below w.heap.size w w') : Seg w' base e size A n c xs := h.keepB fun g _ hlt => hb.block g hlt
theorem Seg.drew (h : Seg w base e size A n c xs) : Seg w.drew base e size A n c xs := h.keepB fun _ _ _ => rfl
theorem Seg.drewN (h : Seg w base e size A n c xs) (k : Nat) : Seg (w.drewN k) base e size A n c xs := h.keepB fun _ _ _ => rfl
theorem Seg.alloc (h : Seg w base e size A n c xs) (o : Obj) : Seg (w.alloc o) base e size A n c xs := h.keepB fun g _ hg => Below.heap_alloc w o g hg
theorem Seg.setCell (h : Seg w base e size A n c xs) {p : Addr} (u : Value) (hp : segBlock A ≠ some p.block) : Seg (w.setCell p u) base e size A n c xs :=
  h.keepB fun g hg _ => Below.heap_setCell w p u g (fun e => hp (by rw [hg, e]))
theorem Seg.grown {row : Option Nat} (h : Seg w base e size A n c xs) (hg : w.grownBy w' row) (hr : segBlock A = none ∨ segBlock A ≠ row) : Seg w' base e size A n c xs :=
  h.keepB fun g hgb hlt => hg.block g hlt (by rcases hr with hr | hr <;> simp_all)
theorem Seg.rd (h : Seg w base e size A n c xs) : Rd w w.heap.size size A n xs := by
  obtain ⟨h1, h2, h3, h4⟩ := h
  refine ⟨h1, fun hn => ?_⟩
  rcases h4 with h4 | ⟨g, off, cur, rfl, a2, a3, a4, a5⟩
  · omega
  · refine ⟨g, off, rfl, (Array.getElem?_eq_some_iff.1 a3).1, fun j u hu => ?_⟩
    rw [cell_of_row w g (off + j) cur e (0, 0) a3]
    have hj := (List.getElem?_eq_some_iff.1 hu).1
    rw [← a5, List.getElem?_take] at hu
    split at hu
    · rw [List.getElem?_drop] at hu
      simpa using hu
    · cases hu
/-- A piece 's[lo:hi]' of it. -/
theorem Seg.cut (h : Seg w base e size A n c xs) {lo hi : Nat} (h1 : lo ≤ hi) (h2 : hi ≤ n) :
    Seg w base e size (if c = lo then A else A.map (·.add (lo * size))) (hi - lo) (c - lo) ((xs.drop (lo * size)).take ((hi - lo) * size)) := by
  obtain ⟨p1, p2, p3, p4⟩ := h
  have hle : (hi - lo) * size ≤ n * size - lo * size := by
    rw [← Nat.sub_mul]
    exact Nat.mul_le_mul_right _ (by omega)
  refine ⟨by simp only [List.length_take, List.length_drop, p1]; omega, by omega, by omega, ?_⟩
  by_cases hc : c = lo
  · exact .inl (by omega)
  · rcases p4 with p4 | ⟨g, off, cur, rfl, a2, a3, a4, a5⟩
    · exact .inl (by omega)
    · rw [if_neg hc]
      refine .inr ⟨g, off + lo * size, cur, by simp [Addr.add_lit], a2, a3, ?_, ?_⟩
      · have e1 : lo * size + (c - lo) * size = c * size := by rw [← Nat.add_mul]; congr 1; omega
        omega
      · rw [← a5, List.drop_take, List.drop_drop, List.take_take]
        congr 1
        omega
end

section
variable {P : Program} (w : World)

/-- append onto a slice of the call's own. -/
theorem run_append_seg2 (base : Nat) (t tx ty e : TypeId) (i : TypeInfo) (z : Value) (size bytes : Nat) (ht : P.underlying t = some (.slice e)) (hi : P.info? e = some i) (hz : i.zero = some z)
    (hsize : i.size = size) (hby : i.bytes = bytes) (hzs : z.cells.size = size)
    (A : Option Addr) (n c : Nat) (xs : List Value) (hseg : Seg w base e size A n c xs) (x : Value) (m : Nat) (news : List Value) (hs : Src P size tx x m news w)
    (h63 : n + m ≤ maxLen) (hbytes : (n + m) * bytes ≤ 140737488355328) (hbase : base ≤ w.heap.size) :
    ∃ A' c' w', (Builtin.append_ #[t, tx] ty #[.slice A n c, x]).run P w = .ok (.slice A' (n + m) c') w' ∧ Seg w' base e size A' (n + m) c' (xs ++ news) ∧
      w.grownBy w' (segRow A c) ∧ ((A' = A ∧ c' = c) ∨ (c < n + m ∧ segBlock A' = some w.heap.size)) := by
  subst hsize
  subst hby
  obtain ⟨p1, p2, p3, p4⟩ := hseg
  have hsmall : n + m ≤ 9223372036854775807 := by simp only [maxLen] at h63; omega
  have hlen : (xs ++ news).length = (n + m) * i.size := by rw [List.length_append, p1, hs.newsLen, Nat.add_mul]
  by_cases hroom : n + m ≤ c
  · have hcz : c = 0 ∨ 0 < c := by omega
    rcases hcz with p4' | hcp
    · have hn : n = 0 := by omega
      have hm : m = 0 := by omega
      have hc : c = 0 := by omega
      subst hn hm hc
      have hnews : news = [] := List.eq_nil_of_length_eq_zero (by rw [hs.newsLen]; simp)
      have hxs : xs = [] := List.eq_nil_of_length_eq_zero (by rw [p1]; simp)
      subst hnews
      subst hxs
      refine ⟨A, 0, w, ?_, ⟨by simp, Nat.le_refl _, p3, .inl rfl⟩, ⟨rfl, rfl, rfl, Nat.le_refl _, fun _ _ _ => rfl⟩, .inl ⟨rfl, rfl⟩⟩
      rcases hs.kind with ⟨e', hk⟩ | hk <;> cases A <;> simp [Builtin.append_, run_underlying ht, run_underlying hk, sizeOf, typeInfo, hi, hs.len, hs.cells, storeCells]
    · rcases p4 with p4 | ⟨g, off, cur, rfl, a2, a3, a4, a5⟩
      · omega
      have hl : off + n * i.size + news.length ≤ cur.size := by
        have h1 : (n + m) * i.size ≤ c * i.size := Nat.mul_le_mul_right _ hroom
        rw [Nat.add_mul] at h1
        rw [hs.newsLen]
        omega
      have hst := run_storeCells_at P g (off + n * i.size) e news 0 cur w a3 (by omega) hs.one
      simp only [Nat.add_zero] at hst
      refine ⟨_, c, w.setRow g (cur.toList.take (off + n * i.size) ++ news ++ cur.toList.drop (off + n * i.size + news.length)).toArray, ?_,
        ⟨hlen, hroom, p3, .inr ⟨g, off, _, rfl, a2, setRow_heap w g cur _ e _ a3, ?_, ?_⟩⟩, ?_, .inl ⟨rfl, rfl⟩⟩
      · rcases hs.kind with ⟨e', hk⟩ | hk <;> simp [Builtin.append_, run_underlying ht, run_underlying hk, sizeOf, typeInfo, hi, hs.len, hroom, hs.cells, Addr.add_lit, hst]
      · simp only [List.size_toArray, List.length_append, List.length_take, List.length_drop, Array.length_toList]
        omega
      · rw [← a5, List.append_assoc, List.drop_append, List.drop_take]
        have e1 : off - (cur.toList.take (off + n * i.size)).length = 0 := by rw [List.length_take, Array.length_toList]; omega
        rw [e1, List.drop_zero, Nat.add_sub_cancel_left]
        have e2 : ((cur.toList.drop off).take (n * i.size) ++ news).length = (n + m) * i.size := by rw [a5]; exact hlen
        rw [← List.append_assoc, ← e2]
        exact List.take_left
      · unfold segRow
        rw [if_pos hcp]
        exact ⟨rfl, rfl, rfl, by simp, fun k _ hk => setRow_other w g k _ (fun e => hk (by rw [e]; rfl))⟩
  · have hold : (Builtin.firstCells i.size n (.slice A n c)).run P w.drew = .ok xs.toArray w.drew := by
      rcases Nat.eq_zero_or_pos n with h0 | h0
      · subst h0
        have hxs : xs = [] := List.eq_nil_of_length_eq_zero (by rw [p1]; simp)
        subst hxs
        cases A with
        | none => simp [Builtin.firstCells]
        | some a => simp [Builtin.firstCells, loadCells, loadCellsFrom]
      · rcases p4 with p4 | ⟨g, off, cur, rfl, a2, a3, a4, a5⟩
        · omega
        · refine run_firstCells_some w.drew i.size n _ n c xs p1 (fun j u hu => ?_)
          rw [Addr.add_lit]
          show w.cell? _ = _
          rw [cell_of_row w g (off + j) cur e (0, 0) a3]
          rw [← a5, List.getElem?_take] at hu
          split at hu
          · rw [List.getElem?_drop] at hu
            simpa using hu
          · cases hu
    have hr := run_append_grow_src (P := P) w t tx ty e i z ht hi hz A n c xs hold x m news hs (by omega) (by omega) (growslice_fits (by omega) hbytes)
    have hge := grownCap_ge w (n + m) c e
    have hcm : grownCap w (n + m) c e ≤ maxLen := grownCap_le_maxLen w (n + m) c e h63
    refine ⟨_, _, _, hr, ⟨hlen, hge, hcm, .inr ⟨w.heap.size, 0, _, rfl, hbase, heap_alloc_new w.drew _, ?_, ?_⟩⟩, ?_, .inr ⟨by omega, rfl⟩⟩
    · simp only [Array.size_append, List.size_toArray, size_zeroCells, hzs, hlen, ← Nat.add_mul]
      have : n + m + (grownCap w (n + m) c e - (n + m)) = grownCap w (n + m) c e := by omega
      rw [this]
      omega
    · rw [List.drop_zero, Array.toList_append, ← hlen]
      exact List.take_left
    · refine ⟨rfl, rfl, rfl, by simp, ?_⟩
      intro k hk _
      exact Below.heap_alloc w.drew _ k hk

/-- append onto a slice of the call's own. -/
theorem run_append_seg (base : Nat) (t tx ty e : TypeId) (i : TypeInfo) (z : Value) (size bytes : Nat) (ht : P.underlying t = some (.slice e)) (hi : P.info? e = some i) (hz : i.zero = some z)
    (hsize : i.size = size) (hby : i.bytes = bytes) (hzs : z.cells.size = size)
    (A : Option Addr) (n c : Nat) (xs : List Value) (hseg : Seg w base e size A n c xs) (x : Value) (m : Nat) (news : List Value) (hs : Src P size tx x m news w)
    (h63 : n + m ≤ maxLen) (hbytes : (n + m) * bytes ≤ 140737488355328) (hbase : base ≤ w.heap.size) :
    ∃ A' c' w', (Builtin.append_ #[t, tx] ty #[.slice A n c, x]).run P w = .ok (.slice A' (n + m) c') w' ∧ Seg w' base e size A' (n + m) c' (xs ++ news) ∧
      w.grownBy w' (segRow A c) ∧ (segBlock A' = segBlock A ∨ segBlock A' = some w.heap.size) := by
  obtain ⟨A', c', w', h1, h2, h3, h4⟩ := run_append_seg2 w base t tx ty e i z size bytes ht hi hz hsize hby hzs A n c xs hseg x m news hs h63 hbytes hbase
  exact ⟨A', c', w', h1, h2, h3, h4.imp (fun h => by rw [h.1]) (fun h => h.2)⟩

variable {ops : Array Oper} {rest : List Oper} {o : Oper} {a : Act} {Q : Exit → Act → World → Prop}

/-- The same, at an operation. -/
theorem wp_append_seg {K : Act → World → Prop} (s xo : Operand) (t tx : TypeId)
    (ho : o.op = .call { callee := .builtin .append, args := #[s, xo], argTypes := #[t, tx] })
    (base : Nat) (e : TypeId) (z : Value) (size bytes : Nat) (ht : P.underlying t = some (.slice e)) (hi : (P.info? e).map (fun i => (i.zero, i.size, i.bytes)) = some (some z, size, bytes))
    (hzs : z.cells.size = size)
    (A : Option Addr) (n c : Nat) (xs : List Value) (hsv : a.eval s = .slice A n c) (hseg : Seg w base e size A n c xs)
    (x : Value) (m : Nat) (news : List Value) (hx : a.eval xo = x) (hs : Src P size tx x m news w)
    (h63 : n + m ≤ maxLen) (hbytes : (n + m) * bytes ≤ 140737488355328) (hbase : base ≤ w.heap.size)
    (h : ∀ A' c' w', Seg w' base e size A' (n + m) c' (xs ++ news) → w.grownBy w' (segRow A c) → (segBlock A' = segBlock A ∨ segBlock A' = some w.heap.size) →
      n + m ≤ c' → c' ≤ maxLen → K (a.put o.dst (.slice A' (n + m) c')) w') : o.wp P a w K Q := by
  obtain ⟨i, hi0, hz0, hz1, hz2⟩ := info_parts hi
  obtain ⟨A', c', w', hrun, h2, h3, h4⟩ := run_append_seg (P := P) w base t tx o.type e i z size bytes ht hi0 hz0 hz1 hz2 hzs A n c xs hseg x m news hs h63 hbytes hbase
  unfold Oper.wp execOp
  simp only [ho, resolve, invoke, builtin, Sem.run_bind, Sem.run_pure, Result.andThen_ok, List.map_toArray, List.map_cons, List.map_nil, hsv, hx, hrun]
  exact h A' c' w' h2 h3 h4 h2.2.1 h2.2.2.1
/-- .. with the word that it stays where it was. -/
theorem wp_append_seg2 {K : Act → World → Prop} (s xo : Operand) (t tx : TypeId)
    (ho : o.op = .call { callee := .builtin .append, args := #[s, xo], argTypes := #[t, tx] })
    (base : Nat) (e : TypeId) (z : Value) (size bytes : Nat) (ht : P.underlying t = some (.slice e)) (hi : (P.info? e).map (fun i => (i.zero, i.size, i.bytes)) = some (some z, size, bytes))
    (hzs : z.cells.size = size)
    (A : Option Addr) (n c : Nat) (xs : List Value) (hsv : a.eval s = .slice A n c) (hseg : Seg w base e size A n c xs)
    (x : Value) (m : Nat) (news : List Value) (hx : a.eval xo = x) (hs : Src P size tx x m news w)
    (h63 : n + m ≤ maxLen) (hbytes : (n + m) * bytes ≤ 140737488355328) (hbase : base ≤ w.heap.size)
    (h : ∀ A' c' w', Seg w' base e size A' (n + m) c' (xs ++ news) → w.grownBy w' (segRow A c) → ((A' = A ∧ c' = c) ∨ (c < n + m ∧ segBlock A' = some w.heap.size)) →
      n + m ≤ c' → c' ≤ maxLen → K (a.put o.dst (.slice A' (n + m) c')) w') : o.wp P a w K Q := by
  obtain ⟨i, hi0, hz0, hz1, hz2⟩ := info_parts hi
  obtain ⟨A', c', w', hrun, h2, h3, h4⟩ := run_append_seg2 (P := P) w base t tx o.type e i z size bytes ht hi0 hz0 hz1 hz2 hzs A n c xs hseg x m news hs h63 hbytes hbase
  unfold Oper.wp execOp
  simp only [ho, resolve, invoke, builtin, Sem.run_bind, Sem.run_pure, Result.andThen_ok, List.map_toArray, List.map_cons, List.map_nil, hsv, hx, hrun]
  exact h A' c' w' h2 h3 h4 h2.2.1 h2.2.2.1
end

/-- What a slice that reads yields to append. -/
theorem Src.ofRd {P : Program} {w : World} {B size : Nat} {tx e' : TypeId} (hk : P.underlying tx = some (.slice e')) {A : Option Addr} {m c : Nat} {news : List Value} (hr : Rd w B size A m news) (h1 : ∀ u ∈ news, u.oneCell' = true) :
    Src P size tx (.slice A m c) m news w := by
  rcases Nat.eq_zero_or_pos m with h0 | h0
  · subst h0
    obtain rfl := hr.xs_nil
    have hf : ∀ w0 : World, (Builtin.firstCells size 0 (.slice A 0 c)).run P w0 = .ok #[] w0 := fun w0 => by
      cases A with
      | none => simp [Builtin.firstCells]
      | some a => simp [Builtin.firstCells, loadCells, loadCellsFrom]
    exact ⟨.inl ⟨e', hk⟩, fun _ => rfl, hf w, hf w.drew, by simp, fun _ h => by cases h⟩
  · obtain ⟨b, off, rfl, _, hcells⟩ := hr.at_ h0
    exact Src.ofSlice w hk _ m c news hr.len (fun j u hu => by rw [Addr.add_lit]; exact hcells j u hu) h1

theorem byteCells_bc (s : ByteArray) : byteCells s = bc s.data.toList := rfl
end Go.Dol
