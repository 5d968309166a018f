/- Nodes as they lie in memory, one behind the other: of two cells each; found by their ids; turned into the program's. Conditions: as each law names. -/
import Derived.Test.YteeajmgiamdfdaaTxt
import Derived.Test.YteeajmgiamdfdaaAppN
import Derived.Deep.RegionHeld3
namespace Go.Proofs.Yteeajmgiamdfdaa
open Go.RowKit Go.Dol
set_option linter.unusedVariables false
/-- A node, and the slice that its parents are. -/
structure NdA where
  n : ByteArray
  ps : List ByteArray
  A : Option Addr
  c : Nat
def NdA.f (x : NdA) : Nd := (x.n, x.ps)
def NdA.cells (x : NdA) : List Value := [.string x.n, .slice x.A x.ps.length x.c]
def nc (l : List NdA) : List Value := l.flatMap NdA.cells
theorem nc_length (l : List NdA) : (nc l).length = l.length * 2 := by
  induction l with
  | nil => rfl
  | cons x r ih =>
    show (x.cells ++ nc r).length = _
    rw [List.length_append, ih, List.length_cons]
    show 2 + _ = _
    omega
theorem nc_append (a b : List NdA) : nc (a ++ b) = nc a ++ nc b := by simp [nc]
theorem nc_one (l : List NdA) : ∀ u ∈ nc l, u.oneCell' = true := by
  intro u hu
  obtain ⟨x, _, hx⟩ := List.mem_flatMap.1 hu
  rcases List.mem_cons.1 hx with rfl | hx
  · rfl
  · obtain rfl := List.mem_singleton.1 hx
    rfl
theorem nc_get {l : List NdA} {k : Nat} {x : NdA} (h : l[k]? = some x) : (nc l)[k * 2]? = some (.string x.n) ∧ (nc l)[k * 2 + 1]? = some (.slice x.A x.ps.length x.c) := by
  induction l generalizing k with
  | nil => cases h
  | cons y r ih =>
    cases k with
    | zero =>
      have : y = x := by simpa using h
      subst this
      exact ⟨rfl, rfl⟩
    | succ k =>
      have h' : r[k]? = some x := by simpa using h
      have e1 : (nc (y :: r))[(k + 1) * 2]? = (nc r)[k * 2]? := by
        show (y.cells ++ nc r)[_]? = _
        rw [List.getElem?_append_right (by show 2 ≤ _; omega)]
        congr 1
        show (k + 1) * 2 - 2 = _
        omega
      have e2 : (nc (y :: r))[(k + 1) * 2 + 1]? = (nc r)[k * 2 + 1]? := by
        show (y.cells ++ nc r)[_]? = _
        rw [List.getElem?_append_right (by show 2 ≤ _; omega)]
        congr 1
        show (k + 1) * 2 + 1 - 2 = _
        omega
      rw [e1, e2]
      exact ih h'
theorem nc_take (l : List NdA) (k : Nat) : (nc l).take (k * 2) = nc (l.take k) := by
  induction l generalizing k with
  | nil => simp [nc]
  | cons y r ih =>
    cases k with
    | zero => simp [nc]
    | succ k =>
      rw [List.take_succ_cons]
      show (y.cells ++ nc r).take _ = y.cells ++ nc (r.take k)
      rw [List.take_append, ← ih]
      congr 1
      · exact List.take_of_length_le (by show 2 ≤ _; omega)
      · congr 1
        show (k + 1) * 2 - 2 = _
        omega
theorem nc_drop (l : List NdA) (k : Nat) : (nc l).drop (k * 2) = nc (l.drop k) := by
  induction l generalizing k with
  | nil => simp [nc]
  | cons y r ih =>
    cases k with
    | zero => simp
    | succ k =>
      rw [List.drop_succ_cons, ← ih]
      show (y.cells ++ nc r).drop _ = _
      rw [List.drop_append]
      rw [List.drop_eq_nil_of_le (by show 2 ≤ _; omega), List.nil_append]
      congr 1
      show (k + 1) * 2 - 2 = _
      omega
/-- A node that was just made. -/
theorem Rd.nodeT (w : World) (T : TypeId) (x : NdA) : Rd (w.alloc (.cells #[.string x.n, .slice x.A x.ps.length x.c] T)) (w.heap.size + 1) 2 (some ⟨w.heap.size, 0, none⟩) 1 (nc [x]) := by
  have hB := Blk.new w T x.cells
  refine ⟨rfl, fun _ => ⟨w.heap.size, 0, rfl, by omega, fun j u hu => ?_⟩⟩
  rw [Nat.zero_add]
  have e : nc [x] = x.cells := by simp [nc]
  rw [e] at hu
  exact (hB.cell j).trans hu
/-- Nodes whose parents read. -/
def Nds (w : World) (B : Nat) (l : List NdA) : Prop := ∀ x ∈ l, Rd w B 1 x.A x.ps.length (pc x.ps) ∧ x.ps.length ≤ x.c ∧ x.c ≤ maxLen
theorem Nds.belowW {w w' : World} {B : Nat} {l : List NdA} (h : Nds w B l) (hb : Below w.heap.size w w') (hB : B ≤ w.heap.size) : Nds w' B l := fun x hx => ⟨(h x hx).1.belowW hb hB, (h x hx).2⟩
/-- The node of an id. -/
theorem par_none {l : List NdA} {s : ByteArray} : parF (l.map NdA.f) s = none ↔ ∀ x ∈ l, x.n ≠ s := by
  induction l with
  | nil => simp [parF]
  | cons x r ih =>
    rw [List.map_cons]
    unfold parF
    show (if x.n = s then some x.ps else _) = none ↔ _
    split
    · rename_i h
      simp [h]
    · rename_i h
      rw [ih]
      simp [h]
theorem par_at {l : List NdA} {s : ByteArray} {k : Nat} {x : NdA} (hx : l[k]? = some x) (hn : x.n = s) (h : ∀ j, j < k → ∀ y, l[j]? = some y → y.n ≠ s) : parF (l.map NdA.f) s = some x.ps := by
  induction l generalizing k with
  | nil => cases hx
  | cons y r ih =>
    rw [List.map_cons]
    unfold parF
    show (if y.n = s then some y.ps else _) = _
    cases k with
    | zero =>
      obtain rfl : y = x := by simpa using hx
      rw [if_pos hn]
    | succ k =>
      rw [if_neg (h 0 (by omega) y rfl)]
      exact ih (k := k) (by simpa using hx) fun j hj z hz => h (j + 1) (by omega) z (by simpa using hz)
/-- What 'find' hands back. -/
def RetFind (l : List NdA) (s : ByteArray) (w : World) (e : Ending) (w' : World) : Prop :=
  w' = w ∧ ((e = .returned (.int .i64 (-1)) ∧ Hid (parF (l.map NdA.f) s = none)) ∨ ∃ (k : Nat) (x : NdA), e = .returned (.int .i64 k) ∧ k < l.length ∧ Hid (l[k]? = some x) ∧ Hid (parF (l.map NdA.f) s = some x.ps))
def FindRel (l : List NdA) (s : ByteArray) (w : World) (i : Value) (wr : World) : Prop :=
  ∃ k : Nat, i = .int .i64 k ∧ k ≤ l.length ∧ Hid (∀ j, j < k → ∀ y, l[j]? = some y → y.n ≠ s) ∧ wr = w
set_option maxRecDepth 100000 in
set_option maxHeartbeats 1600000 in
theorem find_calls (A : Option Addr) (l : List NdA) (c : Nat) (s : ByteArray) (w : World) (B : Nat) (hr : Rd w B 2 A l.length (nc l)) (ha : l.length ≤ 140737488355328) :
    Calls Try.prog 33 #[.slice A l.length c, .string s] w (RetFind l s w) := by
  go_enter Try.func33, Try.ntmps33
  go_wp2_with fail
  go_loopw [5] (fun i wr => FindRel l s w i wr) (fun i _ => l.length - (intOf i).toNat)
  case atStart => exact ⟨0, rfl, Nat.zero_le _, fun j hj => by omega, rfl⟩
  case round =>
    obtain ⟨k, rfl, hk, hs, hwr⟩ := hrel
    subst hwr
    have f1 : IntKind.i64.wrap ((k : Int) + 1) = (k : Int) + 1 := IntWalk.i64_in _ (by omega)
    by_cases h1 : k < l.length
    · have d1 : decide ((k : Int) < (l.length : Int)) = true := by simp; omega
      have d1' : (k : Int) < (l.length : Int) := by omega
      have hk0 : (0 : Int) ≤ (k : Int) := by omega
      obtain ⟨x, hx⟩ : ∃ x, l[k]? = some x := ⟨l[k], List.getElem?_eq_getElem h1⟩
      obtain ⟨bb, off, rfl, hbb, hcell⟩ := hr.at_ (by omega)
      have c1 : wr.cell? ⟨bb, off + k * 2, none⟩ = _ := hcell _ _ (nc_get hx).1
      have G1 := Lib.hid hx
      clear hcell hr
      by_cases h3 : x.n = s
      · have heq : (x.n.toList == s.toList) = true := by rw [h3]; exact beq_self_eq_true _
        have HM : Hid (parF (l.map NdA.f) s = some x.ps) := par_at hx h3 hs.out
        clear h3 hx
        go_wp2_with fail
        go_ret
        exact ⟨rfl, .inr ⟨k, x, rfl, h1, G1, HM⟩⟩
      · have hne : (x.n.toList == s.toList) = false := beq_eq_false_iff_ne.2 fun e => h3 (str_inj e)
        have HS : Hid (∀ j, j < k + 1 → ∀ y, l[j]? = some y → y.n ≠ s) := fun j hj y hy => by
          by_cases hjk : j = k
          · rw [hjk, G1.out] at hy
            injection hy with hy
            rw [← hy]
            exact h3
          · exact hs.out j (by omega) y hy
        clear h3 hx
        go_wp2_with fail
        exact ⟨⟨k + 1, by go_num, by omega, HS, rfl⟩, by simp [intOf]; omega⟩
    · have d1 : decide ((k : Int) < (l.length : Int)) = false := by simp; omega
      have d1' : ¬ (k : Int) < (l.length : Int) := by omega
      have HN : Hid (parF (l.map NdA.f) s = none) := par_none.2 fun x hx e => by
        obtain ⟨j, hj, e2⟩ := List.mem_iff_getElem.1 hx
        exact hs.out j (by omega) x (by rw [List.getElem?_eq_getElem hj, e2]) e
      clear hr
      go_wp2_with fail
      go_ret
      exact ⟨rfl, .inl ⟨rfl, HN⟩⟩
theorem info_mine : (Try.prog.info? 28).map (fun i => (i.zero, i.size, i.bytes)) = some (some (.agg #[.string ⟨#[]⟩, .slice none 0 0]), 2, 40) := by kernel_rfl
/-- What 'mine' hands back. -/
def Ret_mine (w : World) (fs : List NdA) (e : Ending) (w' : World) : Prop :=
  ∃ (ys : List NdA) (A : Option Addr) (c : Nat), Hid (ys = fs) ∧ e = .returned (.slice A ys.length c) ∧ w'.ownsRow w.heap.size 28 2 (.slice A ys.length c) ys.length (nc ys) ∧ Below w.heap.size w w'
def Rel_mine (fs : List NdA) (w : World) (q i : Value) (wr : World) : Prop :=
  ∃ (k : Nat) (ys : List NdA) (A : Option Addr) (c : Nat), q = .slice A ys.length c ∧ i = .int .i64 k ∧ k ≤ fs.length ∧ Hid (ys = fs.take k) ∧ ys.length = k ∧ wr.ownsRow w.heap.size 28 2 (.slice A ys.length c) ys.length (nc ys) ∧ Below w.heap.size w wr
set_option maxRecDepth 100000 in
set_option maxHeartbeats 1600000 in
theorem mine_calls (A : Option Addr) (fs : List NdA) (c : Nat) (w : World) (hr : Rd w w.heap.size 2 A fs.length (nc fs)) (hl : fs.length ≤ 3518437208880) :
    Calls Try.prog 12 #[.slice A fs.length c] w (Ret_mine w fs) := by
  go_enter Try.func12, Try.ntmps12
  go_wp2_with fail
  go_loopw [3, 4] (fun q i wr => Rel_mine fs w q i wr) (fun _ i _ => fs.length - (intOf i).toNat)
  case atStart => exact ⟨0, [], none, 0, rfl, rfl, Nat.zero_le _, rfl, rfl, World.ownsRow_nil _ _ _ _, Below.refl _ _⟩
  case round =>
    obtain ⟨k, ys, A5, c5, rfl, rfl, hk, hy, hyl, ho, hb⟩ := hrel
    have hs := hb.size
    by_cases hlt : k < fs.length
    · have hd : decide ((k : Int) < (fs.length : Int)) = true := decide_eq_true (by omega)
      have hd' : (k : Int) < (fs.length : Int) := by omega
      have hk0 : (0 : Int) ≤ (k : Int) := by omega
      obtain ⟨x, hx⟩ : ∃ x, fs[k]? = some x := ⟨fs[k], List.getElem?_eq_getElem hlt⟩
      have hnext : fs.take (k + 1) = fs.take k ++ [x] := by rw [List.take_add_one, hx]; rfl
      have hrw := hr.belowW hb (Nat.le_refl _)
      obtain ⟨bb, off, rfl, hbb, hcell⟩ := hrw.at_ (by omega)
      have q0 : wr.cell? ⟨bb, off + k * 2, none⟩ = _ := hcell _ _ (nc_get hx).1
      have q1 : wr.cell? ⟨bb, off + k * 2 + 1, none⟩ = _ := hcell _ _ (nc_get hx).2
      have z2 : Below wr.heap.size wr (wr.alloc (.cells x.cells.toArray 28)) := (Below.refl _ _).alloc (Nat.le_refl _) _
      have hxr := (Rd.nodeT wr 28 x).drew
      have hone := nc_one [x]
      have f1 : IntKind.i64.wrap ((k : Int) + 1) = (k : Int) + 1 := IntWalk.i64_in _ (by omega)
      have hyk : ys.length ≤ 3518437208880 := by omega
      obtain ⟨xn, xb, xA, xc⟩ := x
      simp only at q0 q1 hxr
      have HX := Lib.hid hnext
      have HL := Lib.hid hyl
      clear hx hcell hrw hnext hr hyl
      go_wp2_with fail
      go_region_held3 (fun w' => w'.cell? ⟨bb, off + k * 2, none⟩ = some (.string xn) ∧ w'.cell? ⟨bb, off + k * 2 + 1, none⟩ = some (.slice xA xb.length xc)) (first | go_keep | (go_split_ands; refine ⟨?_, ?_⟩ <;> (rw [z2.cell (p := ⟨bb, _, none⟩) hbb]; assumption)))
        ((refine appNr (by rfl) (.tmp 11) (.tmp 23) 24 28 _ 2 40 (by rfl) Try.underlying24 info_mine rfl (by decide) w.heap.size _ ys.length (nc ys) (by rfl) (World.ownsRow.alloc (w := World.drew wr) ho _) (wr.heap.size + 1) _ 1 1 (nc [⟨xn, xb, xA, xc⟩]) (by rfl) hxr hone (by unfold maxLen; omega) (by omega) (by simp; omega) ?_; intro A' c' w' z1 z2 z3 z4 z5))
      go_wp2_with fail
      have hzl : (ys ++ [(⟨xn, xb, xA, xc⟩ : NdA)]).length = ys.length + 1 := by rw [List.length_append]; rfl
      refine ⟨⟨k + 1, ys ++ [⟨xn, xb, xA, xc⟩], A', c', by rw [hzl], by go_num, by omega, ?_, by rw [hzl, HL.out], ?_, hb.trans (((Below.refl _ _).alloc hs _).drew.trans z2)⟩, by simp [intOf]; omega⟩
      · unfold Hid
        rw [HX.out, hy.out]
      · rw [hzl, nc_append]
        exact z1
    · have hd : decide ((k : Int) < (fs.length : Int)) = false := decide_eq_false (by omega)
      have hkf : k = fs.length := by omega
      have hall : ys = fs := by rw [hy.out, hkf, List.take_length]
      have HA := Lib.hid hall
      clear hall hkf
      go_wp2_with fail
      go_ret
      exact ⟨ys, A5, c5, HA, rfl, ho, hb⟩
end Go.Proofs.Yteeajmgiamdfdaa
