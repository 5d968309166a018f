/- The walks of the layer 'object', its second part: rows of texts and of entries that are compared. Conditions: lengths below 2^47. -/
import Derived.Test.YtcefbhmmijmefaaObj1
namespace Go.Dol
open Go.RowKit
def pc (l : List ByteArray) : List Value := l.map Value.string
def ec (l : List Ent) : List Value := l.flatMap fun e => [.string e.name, .bool e.dir, .string e.id]
theorem pc_length (l : List ByteArray) : (pc l).length = l.length := by simp [pc]
theorem ec_length (l : List Ent) : (ec l).length = l.length * 3 := by
  induction l with
  | nil => rfl
  | cons e l ih => unfold ec at *; simp only [List.flatMap_cons, List.length_append, List.length_cons, List.length_nil, ih]; omega
theorem pc_get {l : List ByteArray} {k : Nat} (h : k < l.length) : (pc l)[k]? = some (.string l[k]) := by simp [pc, List.getElem?_eq_getElem h]
theorem ec_get : ∀ {l : List Ent} {k : Nat} (h : k < l.length), (ec l)[k * 3]? = some (.string l[k].name) ∧ (ec l)[k * 3 + 1]? = some (.bool l[k].dir) ∧ (ec l)[k * 3 + 2]? = some (.string l[k].id)
  | [], k, h => by simp at h
  | e :: l, 0, h => ⟨rfl, rfl, rfl⟩
  | e :: l, k + 1, h => by
    have := ec_get (l := l) (k := k) (by simpa using h)
    have e3 : ∀ j, (ec (e :: l))[(k + 1) * 3 + j]? = (ec l)[k * 3 + j]? := fun j => by
      show ([.string e.name, .bool e.dir, .string e.id] ++ ec l)[(k + 1) * 3 + j]? = _
      rw [List.getElem?_append_right (by simp; omega)]
      congr 1
      simp
      omega
    have h0 := e3 0
    have h1 := e3 1
    have h2 := e3 2
    rw [Nat.add_zero, Nat.add_zero] at h0
    rw [h0, h1, h2]
    exact this
theorem str_inj {x y : ByteArray} (h : x.toList = y.toList) : x = y := by
  rw [ByteArray.toList_eq, ByteArray.toList_eq] at h
  exact WideShapes.bytes_inj h
end Go.Dol
namespace Go.Proofs.Ytcefbhmmijmefaa
open Go.RowKit Go.Dol
set_option linter.unusedVariables false

/-- Whether two are one. -/
def RetEq (p : Prop) (w : World) (e : Ending) (w' : World) : Prop := ∃ (v : Bool) (n : Nat), e = .returned (.bool v) ∧ (v = true ↔ p) ∧ w' = w.drewN n
theorem ent_neq (w : World) (x0 y0 x2 y2 : ByteArray) (x1 y1 : Bool) : (binOp .neq 56 (.agg #[.string x0, .bool x1, .string x2]) (.agg #[.string y0, .bool y1, .string y2])).run Try.prog w = .ok (.bool (!(x0.toList == y0.toList && (x1 == y1 && x2.toList == y2.toList)))) w := by
  go_simp
  by_cases h0 : x0.toList = y0.toList <;> by_cases h1 : x1 = y1 <;> by_cases h2 : x2.toList = y2.toList <;> simp [h0, h1, h2]
theorem ent_ne {x0 y0 x2 y2 : ByteArray} {x1 y1 : Bool} (h : ¬ (x0 = y0 ∧ x1 = y1 ∧ x2 = y2)) : (!(x0.toList == y0.toList && (x1 == y1 && x2.toList == y2.toList))) = true := by
  rw [Bool.not_eq_true']
  rw [Bool.eq_false_iff]
  intro h2
  simp only [Bool.and_eq_true, beq_iff_eq] at h2
  exact h ⟨str_inj h2.1, h2.2.1, str_inj h2.2.2⟩

def EqualBRel (a b : List UInt8) (w : World) (i : Value) (wr : World) : Prop :=
  ∃ k q : Nat, i = .int .i64 k ∧ k ≤ a.length ∧ Hid (∀ j, j < k → a[j]? = b[j]?) ∧ Hid (wr = w.drewN q)

set_option maxRecDepth 100000 in
set_option maxHeartbeats 1600000 in
theorem EqualB_calls (A : Option Addr) (a : List UInt8) (c : Nat) (A2 : Option Addr) (b : List UInt8) (c2 : Nat) (w : World) (B B2 : Nat) (hr : Rd w B 1 A a.length (bc a)) (hr2 : Rd w B2 1 A2 b.length (bc b)) (ha : a.length ≤ 140737488355328) (hb : b.length ≤ 140737488355328) :
    Calls Try.prog 61 #[.slice A a.length c, .slice A2 b.length c2] w (RetEq (a = b) w) := by
  by_cases hl : a.length = b.length
  · have d0 : ((a.length : Int) != (b.length : Int)) = false := by simp; omega
    have HL := Lib.hid hl
    have hl1 : a.length ≤ b.length := by omega
    clear hl
    go_enter Try.func61, Try.ntmps61
    go_wp2_with fail
    go_loopw [13] (fun i wr => EqualBRel a b w i wr) (fun i _ => a.length - (intOf i).toNat)
    case atStart => exact ⟨0, 0, rfl, Nat.zero_le _, fun j hj => by omega, rfl⟩
    case round =>
      obtain ⟨k, q, rfl, hk, hs, hwr⟩ := hrel
      have hrw : Rd wr B 1 A a.length (bc a) := by rw [hwr.out]; exact hr.drewN q
      have hrw2 : Rd wr B2 1 A2 b.length (bc b) := by rw [hwr.out]; exact hr2.drewN q
      have f1 : IntKind.i64.wrap ((k : Int) + 1) = (k : Int) + 1 := IntWalk.i64_in _ (by omega)
      by_cases h1 : k < a.length
      · have d1 : decide ((k : Int) < (a.length : Int)) = true := by simp; omega
        have d1' : (k : Int) < (a.length : Int) := by omega
        have d2' : (k : Int) < (b.length : Int) := by omega
        have hk0 : (0 : Int) ≤ (k : Int) := by omega
        have h2 : k < b.length := by omega
        have hlen1 : a.length ≤ 9223372036854775807 := by omega
        obtain ⟨bb, off, rfl, hbb, hcell⟩ := hrw.at_ (by omega)
        obtain ⟨bb2, off2, rfl, hbb2, hcell2⟩ := hrw2.at_ (by omega)
        have c1 := hcell k _ (bc_get a k h1)
        have c2 := hcell2 k _ (bc_get b k h2)
        have g1 : a[k]? = some a[k] := List.getElem?_eq_getElem h1
        have g2 : b[k]? = some b[k] := List.getElem?_eq_getElem h2
        have G1 := Lib.hid g1
        have G2 := Lib.hid g2
        obtain ⟨x, hx⟩ : ∃ x, x = a[k] := ⟨_, rfl⟩
        obtain ⟨y, hy⟩ : ∃ y, y = b[k] := ⟨_, rfl⟩
        rw [← hx] at c1 G1
        rw [← hy] at c2 G2
        clear hx hy g1 g2 hcell hcell2
        by_cases h3 : x = y
        · subst h3
          have HS : Hid (∀ j, j < k + 1 → a[j]? = b[j]?) := fun j hj => by
            by_cases hjk : j = k
            · rw [hjk, G1.out, G2.out]
            · exact hs.out j (by omega)
          go_wp2_with fail
          go_quiet (fail)
          go_wp2_with fail
          refine ⟨⟨k + 1, q + nq, by go_num, by omega, HS, by unfold Hid; rw [hwr.out, World.drewN_drewN]⟩, by simp [intOf]; omega⟩
        · have HN : Hid (¬ a = b) := fun e => by
            have h4 := G2.out
            rw [← e, G1.out] at h4
            injection h4 with h4
            exact h3 h4
          have hne : ((x.toNat : Int) != (y.toNat : Int)) = true := bne_iff_ne.2 fun e => h3 (UInt8.toNat_inj.1 (by omega))
          go_wp2_with fail
          go_quiet (fail)
          go_wp2_with fail
          go_ret
          exact ⟨false, q + nq, rfl, by simp [HN.out], by rw [hwr.out, World.drewN_drewN]⟩
      · have d1 : decide ((k : Int) < (a.length : Int)) = false := by simp; omega
        have d1' : ¬ (k : Int) < (a.length : Int) := by omega
        have HE : Hid (a = b) := List.ext_getElem? fun j => by
          rcases Nat.lt_or_ge j a.length with hj | hj
          · exact hs.out j (by omega)
          · rw [List.getElem?_eq_none hj, List.getElem?_eq_none (by rw [← HL.out]; exact hj)]
        go_wp2_with fail
        go_ret
        exact ⟨true, q, rfl, by simp [HE.out], hwr.out⟩
  · have d0 : ((a.length : Int) != (b.length : Int)) = true := bne_iff_ne.2 (by omega)
    have HN : Hid (¬ a = b) := fun e => hl (by rw [e])
    clear hl
    go_enter Try.func61, Try.ntmps61
    go_wp2_with fail
    go_ret
    exact ⟨false, 0, rfl, by simp [HN.out], rfl⟩

def EqualSRel (a b : List ByteArray) (w : World) (i : Value) (wr : World) : Prop :=
  ∃ k q : Nat, i = .int .i64 k ∧ k ≤ a.length ∧ Hid (∀ j, j < k → a[j]? = b[j]?) ∧ Hid (wr = w.drewN q)

set_option maxRecDepth 100000 in
set_option maxHeartbeats 1600000 in
theorem EqualS_calls (A : Option Addr) (a : List ByteArray) (c : Nat) (A2 : Option Addr) (b : List ByteArray) (c2 : Nat) (w : World) (B B2 : Nat) (hr : Rd w B 1 A a.length (pc a)) (hr2 : Rd w B2 1 A2 b.length (pc b)) (ha : a.length ≤ 140737488355328) (hb : b.length ≤ 140737488355328) :
    Calls Try.prog 80 #[.slice A a.length c, .slice A2 b.length c2] w (RetEq (a = b) w) := by
  by_cases hl : a.length = b.length
  · have d0 : ((a.length : Int) != (b.length : Int)) = false := by simp; omega
    have HL := Lib.hid hl
    have hl1 : a.length ≤ b.length := by omega
    clear hl
    go_enter Try.func80, Try.ntmps80
    go_wp2_with fail
    go_loopw [13] (fun i wr => EqualSRel a b w i wr) (fun i _ => a.length - (intOf i).toNat)
    case atStart => exact ⟨0, 0, rfl, Nat.zero_le _, fun j hj => by omega, rfl⟩
    case round =>
      obtain ⟨k, q, rfl, hk, hs, hwr⟩ := hrel
      have hrw : Rd wr B 1 A a.length (pc a) := by rw [hwr.out]; exact hr.drewN q
      have hrw2 : Rd wr B2 1 A2 b.length (pc b) := by rw [hwr.out]; exact hr2.drewN q
      have f1 : IntKind.i64.wrap ((k : Int) + 1) = (k : Int) + 1 := IntWalk.i64_in _ (by omega)
      by_cases h1 : k < a.length
      · have d1 : decide ((k : Int) < (a.length : Int)) = true := by simp; omega
        have d1' : (k : Int) < (a.length : Int) := by omega
        have d2' : (k : Int) < (b.length : Int) := by omega
        have hk0 : (0 : Int) ≤ (k : Int) := by omega
        have h2 : k < b.length := by omega
        have hlen1 : a.length ≤ 9223372036854775807 := by omega
        obtain ⟨bb, off, rfl, hbb, hcell⟩ := hrw.at_ (by omega)
        obtain ⟨bb2, off2, rfl, hbb2, hcell2⟩ := hrw2.at_ (by omega)
        have c1 := hcell k _ (pc_get h1)
        have c2 := hcell2 k _ (pc_get h2)
        have g1 : a[k]? = some a[k] := List.getElem?_eq_getElem h1
        have g2 : b[k]? = some b[k] := List.getElem?_eq_getElem h2
        have G1 := Lib.hid g1
        have G2 := Lib.hid g2
        obtain ⟨x, hx⟩ : ∃ x, x = a[k] := ⟨_, rfl⟩
        obtain ⟨y, hy⟩ : ∃ y, y = b[k] := ⟨_, rfl⟩
        rw [← hx] at c1 G1
        rw [← hy] at c2 G2
        clear hx hy g1 g2 hcell hcell2
        by_cases h3 : x = y
        · subst h3
          have HS : Hid (∀ j, j < k + 1 → a[j]? = b[j]?) := fun j hj => by
            by_cases hjk : j = k
            · rw [hjk, G1.out, G2.out]
            · exact hs.out j (by omega)
          go_wp2_with fail
          go_quiet (fail)
          go_wp2_with fail
          refine ⟨⟨k + 1, q + nq, by go_num, by omega, HS, by unfold Hid; rw [hwr.out, World.drewN_drewN]⟩, by simp [intOf]; omega⟩
        · have HN : Hid (¬ a = b) := fun e => by
            have h4 := G2.out
            rw [← e, G1.out] at h4
            injection h4 with h4
            exact h3 h4
          have hne : (x.toList == y.toList) = false := beq_eq_false_iff_ne.2 fun e => h3 (str_inj e)
          go_wp2_with fail
          go_quiet (fail)
          go_wp2_with fail
          go_ret
          exact ⟨false, q + nq, rfl, by simp [HN.out], by rw [hwr.out, World.drewN_drewN]⟩
      · have d1 : decide ((k : Int) < (a.length : Int)) = false := by simp; omega
        have d1' : ¬ (k : Int) < (a.length : Int) := by omega
        have HE : Hid (a = b) := List.ext_getElem? fun j => by
          rcases Nat.lt_or_ge j a.length with hj | hj
          · exact hs.out j (by omega)
          · rw [List.getElem?_eq_none hj, List.getElem?_eq_none (by rw [← HL.out]; exact hj)]
        go_wp2_with fail
        go_ret
        exact ⟨true, q, rfl, by simp [HE.out], hwr.out⟩
  · have d0 : ((a.length : Int) != (b.length : Int)) = true := bne_iff_ne.2 (by omega)
    have HN : Hid (¬ a = b) := fun e => hl (by rw [e])
    clear hl
    go_enter Try.func80, Try.ntmps80
    go_wp2_with fail
    go_ret
    exact ⟨false, 0, rfl, by simp [HN.out], rfl⟩

def SameTextsRel (a b : List ByteArray) (w : World) (i : Value) (wr : World) : Prop :=
  ∃ k q : Nat, i = .int .i64 k ∧ k ≤ a.length ∧ Hid (∀ j, j < k → a[j]? = b[j]?) ∧ Hid (wr = w.drewN q)

set_option maxRecDepth 100000 in
set_option maxHeartbeats 1600000 in
theorem SameTexts_calls (A : Option Addr) (a : List ByteArray) (c : Nat) (A2 : Option Addr) (b : List ByteArray) (c2 : Nat) (w : World) (B B2 : Nat) (hr : Rd w B 1 A a.length (pc a)) (hr2 : Rd w B2 1 A2 b.length (pc b)) (ha : a.length ≤ 140737488355328) (hb : b.length ≤ 140737488355328) :
    Calls Try.prog 47 #[.slice A a.length c, .slice A2 b.length c2] w (RetEq (a = b) w) := by
  by_cases hl : a.length = b.length
  · have d0 : ((a.length : Int) != (b.length : Int)) = false := by simp; omega
    have HL := Lib.hid hl
    have hl1 : a.length ≤ b.length := by omega
    clear hl
    go_enter Try.func47, Try.ntmps47
    go_wp2_with fail
    go_loopw [5] (fun i wr => SameTextsRel a b w i wr) (fun i _ => a.length - (intOf i).toNat)
    case atStart => exact ⟨0, 0, rfl, Nat.zero_le _, fun j hj => by omega, rfl⟩
    case round =>
      obtain ⟨k, q, rfl, hk, hs, hwr⟩ := hrel
      have hrw : Rd wr B 1 A a.length (pc a) := by rw [hwr.out]; exact hr.drewN q
      have hrw2 : Rd wr B2 1 A2 b.length (pc b) := by rw [hwr.out]; exact hr2.drewN q
      have f1 : IntKind.i64.wrap ((k : Int) + 1) = (k : Int) + 1 := IntWalk.i64_in _ (by omega)
      by_cases h1 : k < a.length
      · have d1 : decide ((k : Int) < (a.length : Int)) = true := by simp; omega
        have d1' : (k : Int) < (a.length : Int) := by omega
        have d2' : (k : Int) < (b.length : Int) := by omega
        have hk0 : (0 : Int) ≤ (k : Int) := by omega
        have h2 : k < b.length := by omega
        have hlen1 : a.length ≤ 9223372036854775807 := by omega
        obtain ⟨bb, off, rfl, hbb, hcell⟩ := hrw.at_ (by omega)
        obtain ⟨bb2, off2, rfl, hbb2, hcell2⟩ := hrw2.at_ (by omega)
        have c1 := hcell k _ (pc_get h1)
        have c2 := hcell2 k _ (pc_get h2)
        have g1 : a[k]? = some a[k] := List.getElem?_eq_getElem h1
        have g2 : b[k]? = some b[k] := List.getElem?_eq_getElem h2
        have G1 := Lib.hid g1
        have G2 := Lib.hid g2
        obtain ⟨x, hx⟩ : ∃ x, x = a[k] := ⟨_, rfl⟩
        obtain ⟨y, hy⟩ : ∃ y, y = b[k] := ⟨_, rfl⟩
        rw [← hx] at c1 G1
        rw [← hy] at c2 G2
        clear hx hy g1 g2 hcell hcell2
        by_cases h3 : x = y
        · subst h3
          have HS : Hid (∀ j, j < k + 1 → a[j]? = b[j]?) := fun j hj => by
            by_cases hjk : j = k
            · rw [hjk, G1.out, G2.out]
            · exact hs.out j (by omega)
          go_wp2_with fail
          go_quiet (fail)
          go_wp2_with fail
          refine ⟨⟨k + 1, q + nq, by go_num, by omega, HS, by unfold Hid; rw [hwr.out, World.drewN_drewN]⟩, by simp [intOf]; omega⟩
        · have HN : Hid (¬ a = b) := fun e => by
            have h4 := G2.out
            rw [← e, G1.out] at h4
            injection h4 with h4
            exact h3 h4
          have hne : (x.toList == y.toList) = false := beq_eq_false_iff_ne.2 fun e => h3 (str_inj e)
          go_wp2_with fail
          go_quiet (fail)
          go_wp2_with fail
          go_ret
          exact ⟨false, q + nq, rfl, by simp [HN.out], by rw [hwr.out, World.drewN_drewN]⟩
      · have d1 : decide ((k : Int) < (a.length : Int)) = false := by simp; omega
        have d1' : ¬ (k : Int) < (a.length : Int) := by omega
        have HE : Hid (a = b) := List.ext_getElem? fun j => by
          rcases Nat.lt_or_ge j a.length with hj | hj
          · exact hs.out j (by omega)
          · rw [List.getElem?_eq_none hj, List.getElem?_eq_none (by rw [← HL.out]; exact hj)]
        go_wp2_with fail
        go_ret
        exact ⟨true, q, rfl, by simp [HE.out], hwr.out⟩
  · have d0 : ((a.length : Int) != (b.length : Int)) = true := bne_iff_ne.2 (by omega)
    have HN : Hid (¬ a = b) := fun e => hl (by rw [e])
    clear hl
    go_enter Try.func47, Try.ntmps47
    go_wp2_with fail
    go_ret
    exact ⟨false, 0, rfl, by simp [HN.out], rfl⟩

def EqualERel (a b : List Ent) (w : World) (i : Value) (wr : World) : Prop :=
  ∃ k q : Nat, i = .int .i64 k ∧ k ≤ a.length ∧ Hid (∀ j, j < k → a[j]? = b[j]?) ∧ Hid (wr = w.drewN q)

set_option maxRecDepth 100000 in
set_option maxHeartbeats 1600000 in
theorem EqualE_calls (A : Option Addr) (a : List Ent) (c : Nat) (A2 : Option Addr) (b : List Ent) (c2 : Nat) (w : World) (B B2 : Nat) (hr : Rd w B 3 A a.length (ec a)) (hr2 : Rd w B2 3 A2 b.length (ec b)) (ha : a.length ≤ 140737488355328) (hb : b.length ≤ 140737488355328) :
    Calls Try.prog 79 #[.slice A a.length c, .slice A2 b.length c2] w (RetEq (a = b) w) := by
  by_cases hl : a.length = b.length
  · have d0 : ((a.length : Int) != (b.length : Int)) = false := by simp; omega
    have HL := Lib.hid hl
    have hl1 : a.length ≤ b.length := by omega
    clear hl
    go_enter Try.func79, Try.ntmps79
    go_wp2_with fail
    go_loopw [13] (fun i wr => EqualERel a b w i wr) (fun i _ => a.length - (intOf i).toNat)
    case atStart => exact ⟨0, 0, rfl, Nat.zero_le _, fun j hj => by omega, rfl⟩
    case round =>
      obtain ⟨k, q, rfl, hk, hs, hwr⟩ := hrel
      have hrw : Rd wr B 3 A a.length (ec a) := by rw [hwr.out]; exact hr.drewN q
      have hrw2 : Rd wr B2 3 A2 b.length (ec b) := by rw [hwr.out]; exact hr2.drewN q
      have f1 : IntKind.i64.wrap ((k : Int) + 1) = (k : Int) + 1 := IntWalk.i64_in _ (by omega)
      by_cases h1 : k < a.length
      · have d1 : decide ((k : Int) < (a.length : Int)) = true := by simp; omega
        have d1' : (k : Int) < (a.length : Int) := by omega
        have d2' : (k : Int) < (b.length : Int) := by omega
        have hk0 : (0 : Int) ≤ (k : Int) := by omega
        have h2 : k < b.length := by omega
        have hlen1 : a.length ≤ 9223372036854775807 := by omega
        obtain ⟨bb, off, rfl, hbb, hcell⟩ := hrw.at_ (by omega)
        obtain ⟨bb2, off2, rfl, hbb2, hcell2⟩ := hrw2.at_ (by omega)
        obtain ⟨p0, p1, p2⟩ := ec_get h1
        obtain ⟨r0, r1, r2⟩ := ec_get h2
        have c0 := hcell _ _ p0
        have c1 : wr.cell? ⟨bb, off + k * 3 + 1, none⟩ = _ := hcell _ _ p1
        have c2 : wr.cell? ⟨bb, off + k * 3 + 2, none⟩ = _ := hcell _ _ p2
        have e0 := hcell2 _ _ r0
        have e1 : wr.cell? ⟨bb2, off2 + k * 3 + 1, none⟩ = _ := hcell2 _ _ r1
        have e2 : wr.cell? ⟨bb2, off2 + k * 3 + 2, none⟩ = _ := hcell2 _ _ r2
        have g1 : a[k]? = some a[k] := List.getElem?_eq_getElem h1
        have g2 : b[k]? = some b[k] := List.getElem?_eq_getElem h2
        have G1 := Lib.hid g1
        have G2 := Lib.hid g2
        obtain ⟨x, hx⟩ : ∃ x, x = a[k] := ⟨_, rfl⟩
        obtain ⟨y, hy⟩ : ∃ y, y = b[k] := ⟨_, rfl⟩
        rw [← hx] at c0 c1 c2 G1
        rw [← hy] at e0 e1 e2 G2
        obtain ⟨x0, x1, x2⟩ := x
        obtain ⟨y0, y1, y2⟩ := y
        simp only at c0 c1 c2 e0 e1 e2
        clear hx hy g1 g2 hcell hcell2 p0 p1 p2 r0 r1 r2
        by_cases h3 : x0 = y0 ∧ x1 = y1 ∧ x2 = y2
        · obtain ⟨rfl, rfl, rfl⟩ := h3
          have HS : Hid (∀ j, j < k + 1 → a[j]? = b[j]?) := fun j hj => by
            by_cases hjk : j = k
            · rw [hjk, G1.out, G2.out]
            · exact hs.out j (by omega)
          have heq : ∀ w : World, (binOp .neq 56 (.agg #[.string x0, .bool x1, .string x2]) (.agg #[.string x0, .bool x1, .string x2])).run Try.prog w = .ok (.bool false) w := fun w => by rw [ent_neq]; simp
          go_wp2_with fail
          go_quiet (fail)
          go_wp2_with fail
          refine ⟨⟨k + 1, q + nq, by go_num, by omega, HS, by unfold Hid; rw [hwr.out, World.drewN_drewN]⟩, by simp [intOf]; omega⟩
        · have HN : Hid (¬ a = b) := fun e => by
            have h4 := G2.out
            rw [← e, G1.out] at h4
            injection h4 with h4
            injection h4 with q1 q2 q3
            exact h3 ⟨q1, q2, q3⟩
          have heq : ∀ w : World, (binOp .neq 56 (.agg #[.string x0, .bool x1, .string x2]) (.agg #[.string y0, .bool y1, .string y2])).run Try.prog w = .ok (.bool true) w := fun w => by
            rw [ent_neq, ent_ne h3]
          go_wp2_with fail
          go_quiet (fail)
          go_wp2_with fail
          go_ret
          exact ⟨false, q + nq, rfl, by simp [HN.out], by rw [hwr.out, World.drewN_drewN]⟩
      · have d1 : decide ((k : Int) < (a.length : Int)) = false := by simp; omega
        have d1' : ¬ (k : Int) < (a.length : Int) := by omega
        have HE : Hid (a = b) := List.ext_getElem? fun j => by
          rcases Nat.lt_or_ge j a.length with hj | hj
          · exact hs.out j (by omega)
          · rw [List.getElem?_eq_none hj, List.getElem?_eq_none (by rw [← HL.out]; exact hj)]
        go_wp2_with fail
        go_ret
        exact ⟨true, q, rfl, by simp [HE.out], hwr.out⟩
  · have d0 : ((a.length : Int) != (b.length : Int)) = true := bne_iff_ne.2 (by omega)
    have HN : Hid (¬ a = b) := fun e => hl (by rw [e])
    clear hl
    go_enter Try.func79, Try.ntmps79
    go_wp2_with fail
    go_ret
    exact ⟨false, 0, rfl, by simp [HN.out], rfl⟩

end Go.Proofs.Ytcefbhmmijmefaa
