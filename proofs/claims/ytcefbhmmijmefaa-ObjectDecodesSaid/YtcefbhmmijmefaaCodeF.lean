/- Taking a text, with what is left as a row of the call's own. Conditions: bytes that are made fit 2^47. -/
import Derived.Test.YtcefbhmmijmefaaCodeN
import Derived.Test.YtcefbhmmijmefaaPiece
namespace Go.Proofs.Ytcefbhmmijmefaa
open Go.RowKit Go.Dol
set_option linter.unusedVariables false

/-- What taking a text hands back; what is left lies in a row that the call made. -/
def RetTextF (w : World) (r : Option (List UInt8 × List UInt8)) (e : Ending) (w' : World) : Prop :=
  match r with
  | none => e = .returned (.tuple #[.string ⟨#[]⟩, .slice none 0 0, .int .i64 2]) ∧ Below w.heap.size w w'
  | some (s, q) => ∃ (q' : List UInt8) (A : Option Addr) (c : Nat), Hid (q' = q) ∧ e = .returned (.tuple #[.string ⟨s.toArray⟩, .slice A q'.length c, .int .i64 0]) ∧ Seg w' w.heap.size 5 1 A q'.length c (bc q') ∧ Below w.heap.size w w'

set_option maxRecDepth 100000 in
set_option maxHeartbeats 400000 in
theorem TakeText_far (A : Option Addr) (l : List UInt8) (c : Nat) (most : Int) (w : World) (hr : Rd w w.heap.size 1 A l.length (bc l)) (hl : l.length ≤ 140737488355328) (hc : l.length ≤ c) :
    Calls Try.prog 24 #[.slice A l.length c, .int .i64 most] w (RetTextF w (takeText l most)) := by
  cases ht : takeNum l with
  | none =>
    have HE : Hid (takeText l most = none) := by unfold Hid takeText; rw [ht]
    have HT := Lib.hid ht
    clear ht
    go_enter Try.func24, Try.ntmps24
    go_wp2_with fail
    refine (TakeNum_calls A l c w hr hl hc).mono ?_
    intro e w1 h1
    rw [HT.out] at h1
    obtain ⟨rfl, hb1⟩ := h1
    go_wp2_with fail
    go_ret3
    rw [HE.out]
    exact ⟨rfl, hb1⟩
  | some p =>
    obtain ⟨n, q⟩ := p
    have hn := (num_takeNum ht).2
    unfold mostNum at hn
    have hni : (n : Int) ≤ 4611686018427387903 := by omega
    have HE : Hid (takeText l most = if (n : Int) ≤ most ∧ n ≤ q.length then some (q.take n, q.drop n) else none) := by unfold Hid takeText; rw [ht]
    have HT := Lib.hid ht
    clear ht hn
    have hcase : most < (n : Int) ∨ ((n : Int) ≤ most ∧ q.length < n) ∨ ((n : Int) ≤ most ∧ n ≤ q.length) := by omega
    rcases hcase with h0 | ⟨h0, h00⟩ | ⟨h0, h00⟩
    · have HE2 : Hid (takeText l most = none) := by have := HE.out; rwa [if_neg (by omega)] at this
      clear HE
      have hd : decide (most < (n : Int)) = true := by simpa using h0
      go_enter Try.func24, Try.ntmps24
      go_wp2_with fail
      refine (TakeNum_calls A l c w hr hl hc).mono ?_
      intro e w1 h1
      rw [HT.out] at h1
      obtain ⟨q1, A1, c1, e1, rfl, h1, hb1, h2, h3⟩ := h1
      go_wp2_with fail
      go_ret3
      rw [HE2.out]
      exact ⟨rfl, hb1⟩
    · have HE2 : Hid (takeText l most = none) := by have := HE.out; rwa [if_neg (by omega)] at this
      clear HE
      have hd : decide (most < (n : Int)) = false := by simpa using h0
      go_enter Try.func24, Try.ntmps24
      go_wp2_with fail
      refine (TakeNum_calls A l c w hr hl hc).mono ?_
      intro e w1 h1
      rw [HT.out] at h1
      obtain ⟨q1, A1, c1, e1, rfl, h1, hb1, h2, h3⟩ := h1
      have hd2 : decide (q1.length < n) = true := by rw [e1.out]; simpa using h00
      have hd3 : decide ((q1.length : Int) < (n : Int)) = true := by rw [e1.out]; simpa using h00
      go_wp2_with fail
      go_ret3
      rw [HE2.out]
      exact ⟨rfl, hb1⟩
    · have HE2 : Hid (takeText l most = some (q.take n, q.drop n)) := by have := HE.out; rwa [if_pos ⟨h0, h00⟩] at this
      clear HE
      have hd : decide (most < (n : Int)) = false := by simpa using h0
      go_enter Try.func24, Try.ntmps24
      go_wp2_with fail
      refine (TakeNum_calls A l c w hr hl hc).mono ?_
      intro e w1 h1
      rw [HT.out] at h1
      obtain ⟨q1, A1, c1, e1, rfl, h1, hb1, h2, h3⟩ := h1
      have hnq : n ≤ q1.length := by rw [e1.out]; exact h00
      have hd2 : decide (q1.length < n) = false := by simpa using hnq
      have hd3 : decide ((q1.length : Int) < (n : Int)) = false := by simpa using hnq
      have hr1 := Rd.of_own h1
      have ht := ((Seg.of_own h1).tail8 hnq)
      have hcv1 : ∀ k, (convert 22 9 (.slice A1 n c1)).run Try.prog (w1.drewN k) = .ok (.string ⟨(q1.take n).toArray⟩) (w1.drewN k) := fun k => run_conv_bs _ _ _ _ Try.underlying22 Try.underlying5 Try.underlying9 _ A1 n c1 (q1.take n) ((hr1.head hnq).drewN k)
      have hcv2 : (convert 22 9 (.slice A1 n c1)).run Try.prog w1.drew = .ok (.string ⟨(q1.take n).toArray⟩) w1.drew := run_conv_bs _ _ _ _ Try.underlying22 Try.underlying5 Try.underlying9 _ A1 n c1 (q1.take n) (hr1.head hnq).drew
      have hnc : n ≤ c1 := by omega
      by_cases hcap : c1 = n
      · clear ht
        subst hcap
        go_wp2_with fail
        go_quiet (fail)
        go_wp2_with fail
        go_ret3
        rw [HE2.out]
        cases e1.out
        exact ⟨[], A1, 0, (List.drop_eq_nil_of_le (by omega)).symm, rfl, Seg.nil, Below.drewN' hb1 _⟩
      · rw [if_neg hcap] at ht
        go_wp2_with fail
        go_quiet (fail)
        go_wp2_with fail
        go_ret3
        rw [HE2.out]
        cases e1.out
        exact ⟨q.drop _, _, _, rfl, by rw [List.length_drop]; rfl, by rw [List.length_drop]; exact ht.drewN _, Below.drewN' hb1 _⟩

set_option maxRecDepth 100000 in
set_option maxHeartbeats 400000 in
theorem RefTakeText_far (A : Option Addr) (l : List UInt8) (c : Nat) (most : Int) (w : World) (hr : Rd w w.heap.size 1 A l.length (bc l)) (hl : l.length ≤ 140737488355328) (hc : l.length ≤ c) :
    Calls Try.prog 25 #[.slice A l.length c, .int .i64 most] w (RetTextF w (takeText l most)) := by
  cases ht : takeNum l with
  | none =>
    have HE : Hid (takeText l most = none) := by unfold Hid takeText; rw [ht]
    have HT := Lib.hid ht
    clear ht
    go_enter Try.func25, Try.ntmps25
    go_wp2_with fail
    refine (RefTakeNum_calls A l c w hr hl hc).mono ?_
    intro e w1 h1
    rw [HT.out] at h1
    obtain ⟨rfl, hb1⟩ := h1
    go_wp2_with fail
    go_ret3
    rw [HE.out]
    exact ⟨rfl, hb1⟩
  | some p =>
    obtain ⟨n, q⟩ := p
    have hn := (num_takeNum ht).2
    unfold mostNum at hn
    have hni : (n : Int) ≤ 4611686018427387903 := by omega
    have HE : Hid (takeText l most = if (n : Int) ≤ most ∧ n ≤ q.length then some (q.take n, q.drop n) else none) := by unfold Hid takeText; rw [ht]
    have HT := Lib.hid ht
    clear ht hn
    have hcase : most < (n : Int) ∨ ((n : Int) ≤ most ∧ q.length < n) ∨ ((n : Int) ≤ most ∧ n ≤ q.length) := by omega
    rcases hcase with h0 | ⟨h0, h00⟩ | ⟨h0, h00⟩
    · have HE2 : Hid (takeText l most = none) := by have := HE.out; rwa [if_neg (by omega)] at this
      clear HE
      have hd : decide (most < (n : Int)) = true := by simpa using h0
      go_enter Try.func25, Try.ntmps25
      go_wp2_with fail
      refine (RefTakeNum_calls A l c w hr hl hc).mono ?_
      intro e w1 h1
      rw [HT.out] at h1
      obtain ⟨q1, A1, c1, e1, rfl, h1, hb1, h2, h3⟩ := h1
      go_wp2_with fail
      go_ret3
      rw [HE2.out]
      exact ⟨rfl, hb1⟩
    · have HE2 : Hid (takeText l most = none) := by have := HE.out; rwa [if_neg (by omega)] at this
      clear HE
      have hd : decide (most < (n : Int)) = false := by simpa using h0
      go_enter Try.func25, Try.ntmps25
      go_wp2_with fail
      refine (RefTakeNum_calls A l c w hr hl hc).mono ?_
      intro e w1 h1
      rw [HT.out] at h1
      obtain ⟨q1, A1, c1, e1, rfl, h1, hb1, h2, h3⟩ := h1
      have hd2 : decide (q1.length < n) = true := by rw [e1.out]; simpa using h00
      have hd3 : decide ((q1.length : Int) < (n : Int)) = true := by rw [e1.out]; simpa using h00
      go_wp2_with fail
      go_ret3
      rw [HE2.out]
      exact ⟨rfl, hb1⟩
    · have HE2 : Hid (takeText l most = some (q.take n, q.drop n)) := by have := HE.out; rwa [if_pos ⟨h0, h00⟩] at this
      clear HE
      have hd : decide (most < (n : Int)) = false := by simpa using h0
      go_enter Try.func25, Try.ntmps25
      go_wp2_with fail
      refine (RefTakeNum_calls A l c w hr hl hc).mono ?_
      intro e w1 h1
      rw [HT.out] at h1
      obtain ⟨q1, A1, c1, e1, rfl, h1, hb1, h2, h3⟩ := h1
      have hnq : n ≤ q1.length := by rw [e1.out]; exact h00
      have hd2 : decide (q1.length < n) = false := by simpa using hnq
      have hd3 : decide ((q1.length : Int) < (n : Int)) = false := by simpa using hnq
      have hr1 := Rd.of_own h1
      have ht := ((Seg.of_own h1).tail8 hnq)
      have hcv1 : ∀ k, (convert 22 9 (.slice A1 n c1)).run Try.prog (w1.drewN k) = .ok (.string ⟨(q1.take n).toArray⟩) (w1.drewN k) := fun k => run_conv_bs _ _ _ _ Try.underlying22 Try.underlying5 Try.underlying9 _ A1 n c1 (q1.take n) ((hr1.head hnq).drewN k)
      have hcv2 : (convert 22 9 (.slice A1 n c1)).run Try.prog w1.drew = .ok (.string ⟨(q1.take n).toArray⟩) w1.drew := run_conv_bs _ _ _ _ Try.underlying22 Try.underlying5 Try.underlying9 _ A1 n c1 (q1.take n) (hr1.head hnq).drew
      have hnc : n ≤ c1 := by omega
      by_cases hcap : c1 = n
      · clear ht
        subst hcap
        go_wp2_with fail
        go_quiet (fail)
        go_wp2_with fail
        go_ret3
        rw [HE2.out]
        cases e1.out
        exact ⟨[], A1, 0, (List.drop_eq_nil_of_le (by omega)).symm, rfl, Seg.nil, Below.drewN' hb1 _⟩
      · rw [if_neg hcap] at ht
        go_wp2_with fail
        go_quiet (fail)
        go_wp2_with fail
        go_ret3
        rw [HE2.out]
        cases e1.out
        exact ⟨q.drop _, _, _, rfl, by rw [List.length_drop]; rfl, by rw [List.length_drop]; exact ht.drewN _, Below.drewN' hb1 _⟩

/-- Bytes that read; they lie below block B or in a row of bytes. -/
def Far (w : World) (B : Nat) (A : Option Addr) (l : List UInt8) : Prop := Rd w w.heap.size 1 A l.length (bc l) ∧ (0 < l.length → ∀ k, segBlock A = some k → k < B ∨ ∃ cur, w.heap[k]? = some (.cells cur 5 (0, 0)))
/-- A row that is none of bytes, from block B on. -/
def Other (w : World) (B : Nat) (row : Option Nat) : Prop := ∀ k, row = some k → B ≤ k ∧ ∀ cur, w.heap[k]? ≠ some (.cells cur 5 (0, 0))
theorem Other.blk {w : World} {B g : Nat} {T : TypeId} {cs : List Value} (h : Blk w g T cs) (hT : T ≠ 5) (hB : B ≤ g) : Other w B (some g) := by
  intro k hk
  injection hk with hk
  subst hk
  refine ⟨hB, fun cur e => ?_⟩
  unfold Blk at h
  rw [h] at e
  injection e with e
  injection e with _ e
  exact hT e
theorem Other.own {w : World} {B base : Nat} {e : TypeId} {size : Nat} {v : Value} {n : Nat} {xs : List Value} (h : w.ownsRow base e size v n xs) (he : e ≠ 5) (hB : B ≤ base) : Other w B v.ownBlock := by
  intro k hk
  rcases h.2 with ⟨rfl, _⟩ | ⟨g, cap, cur, rfl, h2, h3, _⟩
  · cases hk
  · have e1 : g = k := by
      have e2 : (some g : Option Nat) = some k := hk
      injection e2
    subst e1
    refine ⟨by omega, fun cur' e' => ?_⟩
    rw [h3] at e'
    injection e' with e'
    injection e' with _ e'
    exact he e'
theorem Far.nil {w : World} {B : Nat} {A : Option Addr} : Far w B A [] := ⟨Rd.nil, fun h => absurd h (by decide)⟩
theorem Far.keep {w w' : World} {B : Nat} {A : Option Addr} {l : List UInt8} (h : Far w B A l) {row : Option Nat} (hg : w.grownBy w' row) (hr : Other w B row) : Far w' B A l := by
  rcases Nat.eq_zero_or_pos l.length with h0 | h0
  · obtain rfl : l = [] := List.eq_nil_of_length_eq_zero h0
    exact Far.nil
  obtain ⟨b, off, e, hb, hc⟩ := h.1.at_ h0
  have hs : segBlock A = some b := by rw [e]; rfl
  have hne : some b ≠ row := fun e2 => by
    obtain ⟨h1, h2⟩ := hr b e2.symm
    rcases h.2 h0 b hs with h3 | ⟨cur, h3⟩
    · omega
    · exact h2 cur h3
  refine ⟨⟨h.1.len, fun _ => ⟨b, off, e, Nat.lt_of_lt_of_le hb hg.size, fun j u hu => (World.cell?_of_block (hg.block b hb hne)).trans (hc j u hu)⟩⟩, fun _ k hk => ?_⟩
  rw [hs] at hk
  injection hk with hk
  subst hk
  rw [hg.block b hb hne]
  exact h.2 h0 b hs
theorem Far.below {w w' : World} {B : Nat} {A : Option Addr} {l : List UInt8} (h : Far w B A l) (hb : Below w.heap.size w w') : Far w' B A l := h.keep (grown_of_below hb none) fun _ e => by cases e
theorem Far.drew {w : World} {B : Nat} {A : Option Addr} {l : List UInt8} (h : Far w B A l) : Far w.drew B A l := ⟨h.1.drew, h.2⟩
theorem Far.of_rd {w : World} {B : Nat} {A : Option Addr} {l : List UInt8} (h : Rd w B 1 A l.length (bc l)) (hg : B ≤ w.heap.size) : Far w B A l := by
  refine ⟨h.more hg, fun hn k hk => .inl ?_⟩
  obtain ⟨b, off, e, hb, hc⟩ := h.at_ hn
  rw [e] at hk
  injection hk with hk
  have e3 : b = k := hk
  omega
theorem Far.of_seg {w : World} {base B : Nat} {A : Option Addr} {l : List UInt8} {c : Nat} (h : Seg w base 5 1 A l.length c (bc l)) : Far w B A l := by
  refine ⟨h.rd, fun hn k hk => .inr ?_⟩
  have hc := h.2.1
  rcases h.2.2.2 with h4 | ⟨g, off, cur, rfl, a2, a3, _⟩
  · omega
  · injection hk with hk
    have e3 : g = k := hk
    subst e3
    exact ⟨cur, a3⟩
theorem Far.piece {w : World} {B0 B k : Nat} {A A' : Option Addr} {l m : List UInt8} {c' : Nat} (h : Far w B A l) (hp : Piece w B0 m A' c') (hB : B0 ≤ w.heap.size) (hk : m.length + k ≤ l.length) (hs : segBlock A' = segBlock A) : Far w B A' m :=
  ⟨hp.1.more hB, fun hn => by rw [hs]; exact h.2 (by omega)⟩
end Go.Proofs.Ytcefbhmmijmefaa
