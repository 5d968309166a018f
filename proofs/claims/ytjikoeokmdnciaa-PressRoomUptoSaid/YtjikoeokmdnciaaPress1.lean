/- The walks of the layer 'press', its first part: the document's count of like bytes and its longest copy. Conditions: lengths below 2^47. -/
import Derived.Test.YtjikoeokmdnciaaCodeN
import Derived.Test.YtjikoeokmdnciaaBlk
import Derived.Test.YtjikoeokmdnciaaPressLaw
import Derived.Deep.QuietTactic
import Derived.BigQuiet
namespace Go.Proofs.Ytjikoeokmdnciaa
open Go.RowKit Go.Dol
set_option linter.unusedVariables false

def AlikeRel (b : List UInt8) (k i : Nat) (w : World) (n : Value) (wr : World) : Prop :=
  ∃ m q : Nat, n = .int .i64 m ∧ m ≤ 259 ∧ i + m ≤ b.length ∧ Hid (∀ j, j < m → b[k + j]? = b[i + j]?) ∧ Hid (wr = w.drewN q)

theorem World.drewN_zero' (w : World) : w.drewN 0 = w := rfl

set_option maxRecDepth 100000 in
set_option maxHeartbeats 800000 in
theorem refalike_calls (A : Option Addr) (b : List UInt8) (c k i : Nat) (w : World) (B : Nat) (hr : Rd w B 1 A b.length (bc b)) (hb : b.length ≤ 140737488355328) (hk : k < i) (hi : i ≤ b.length) :
    Calls Try.prog 45 #[.slice A b.length c, .int .i64 k, .int .i64 i] w fun e w' => e = .returned (.int .i64 (alikeN b k i : Nat)) ∧ ∃ n, w' = w.drewN n := by
  go_enter Try.func45, Try.ntmps45
  go_wp2_with fail
  go_loopw [7] (fun n wr => AlikeRel b k i w n wr) (fun n _ => 259 - (intOf n).toNat)
  case atStart => exact ⟨0, 0, rfl, by omega, by omega, fun j hj => by omega, rfl⟩
  case round =>
    obtain ⟨m, q, rfl, hm, him, hs, hwr⟩ := hrel
    have hrw : Rd wr B 1 A b.length (bc b) := by rw [hwr.out]; exact hr.drewN q
    have hm0 : (0 : Int) ≤ (m : Int) := by omega
    have f1 : IntKind.i64.wrap ((i : Int) + (m : Int)) = (i : Int) + (m : Int) := IntWalk.i64_in _ (by omega)
    have f2 : IntKind.i64.wrap ((k : Int) + (m : Int)) = (k : Int) + (m : Int) := IntWalk.i64_in _ (by omega)
    by_cases h1 : m < 259
    · have d1 : decide ((m : Int) < 259) = true := by simp; omega
      have d1' : (m : Int) < 259 := by omega
      by_cases h2 : i + m < b.length
      · have d2 : decide ((i : Int) + (m : Int) < (b.length : Int)) = true := by simp; omega
        have d2' : (i : Int) + (m : Int) < (b.length : Int) := by omega
        obtain ⟨bb, off, rfl, hbb, hcell⟩ := hrw.at_ (by omega)
        have c1 := hcell (k + m) _ (bc_get b (k + m) (by omega))
        have c2 := hcell (i + m) _ (bc_get b (i + m) h2)
        have g1 : b[k + m]? = some b[k + m] := List.getElem?_eq_getElem (by omega)
        have g2 : b[i + m]? = some b[i + m] := List.getElem?_eq_getElem h2
        obtain ⟨x, hx⟩ : ∃ x, x = (b[k + m]).toNat := ⟨_, rfl⟩
        obtain ⟨y, hy⟩ : ∃ y, y = (b[i + m]).toNat := ⟨_, rfl⟩
        rw [← hx] at c1
        rw [← hy] at c2
        have p1 : ((i : Int) + (m : Int)).toNat = i + m := by omega
        have p2 : ((k : Int) + (m : Int)).toNat = k + m := by omega
        have r1 : (0 : Int) ≤ (k : Int) + (m : Int) := by omega
        have r2 : (k : Int) + (m : Int) < (b.length : Int) := by omega
        have r3 : (0 : Int) ≤ (i : Int) + (m : Int) := by omega
        have hxy : Hid (b[k + m]? = b[i + m]? ↔ x = y) := by
          unfold Hid
          rw [g1, g2, hx, hy]
          constructor
          · intro h; injection h with h; rw [h]
          · intro h; rw [UInt8.toNat_inj.1 h]
        clear hx hy g1 g2 hcell
        by_cases h3 : x = y
        · have hq := hxy.out.2 h3
          have HQ := Lib.hid hq
          clear hq hxy
          subst h3
          go_wp2_with fail
          go_quiet (fail)
          go_wp2_with fail
          refine ⟨⟨m + 1, q + nq, by go_num, by omega, by omega, ?_, ?_⟩, by simp [intOf]; omega⟩
          · intro j hj
            by_cases hjm : j = m
            · rw [hjm]; exact HQ.out
            · exact hs.out j (by omega)
          · unfold Hid; rw [hwr.out, World.drewN_drewN]
        · have hq : ¬ (b[k + m]? = b[i + m]?) := fun h => h3 (hxy.out.1 h)
          have HQ := Lib.hid hq
          have d3 : ((x : Int) == (y : Int)) = false := by simp; omega
          have ha := alike_stop (b := b) (k := k) (i := i) (n := m) (by omega) (by omega) (by omega) hs.out (.inr (.inr HQ.out))
          have HA := Lib.hid ha
          clear hq hxy ha
          go_wp2_with fail
          go_quiet (fail)
          go_wp2_with fail
          go_ret
          exact ⟨by rw [HA.out]; rfl, q + nq, by rw [hwr.out, World.drewN_drewN]⟩
      · have d2 : decide ((i : Int) + (m : Int) < (b.length : Int)) = false := by simp; omega
        have d2' : ¬ ((i : Int) + (m : Int) < (b.length : Int)) := by omega
        have ha := alike_stop (b := b) (k := k) (i := i) (n := m) (by omega) (by omega) (by omega) hs.out (.inr (.inl (by omega)))
        have HA := Lib.hid ha
        clear ha
        go_wp2_with fail
        go_quiet (fail)
        go_wp2_with fail
        go_ret
        exact ⟨by rw [HA.out]; rfl, q + nq, by rw [hwr.out, World.drewN_drewN]⟩
    · have hm9 : m = 259 := by omega
      have d1 : decide ((m : Int) < 259) = false := by simp; omega
      have d1' : ¬ ((m : Int) < 259) := by omega
      have ha := alike_stop (b := b) (k := k) (i := i) (n := m) (by omega) (by omega) (by omega) hs.out (.inl hm9)
      have HA := Lib.hid ha
      have HM := Lib.hid hm9
      clear ha hm9
      go_wp2_with fail
      go_quiet (fail)
      go_wp2_with fail
      go_ret
      exact ⟨by rw [HA.out]; rfl, q + nq, by rw [hwr.out, World.drewN_drewN]⟩

def LongRel (b : List UInt8) (i : Nat) (w : World) (best back d : Value) (wr : World) : Prop :=
  ∃ e q n m : Nat, best = .int .i64 n ∧ back = .int .i64 m ∧ d = .int .i64 e ∧ 1 ≤ e ∧ e ≤ min 4096 i + 1 ∧ n ≤ 259 ∧ Hid (bestD b i (e - 1) = (n, m)) ∧ Hid (wr = w.drewN q)

set_option maxRecDepth 100000 in
set_option maxHeartbeats 800000 in
theorem reflongest_calls (A : Option Addr) (b : List UInt8) (c i : Nat) (w : World) (B : Nat) (hr : Rd w B 1 A b.length (bc b)) (hb : b.length ≤ 140737488355328) (hi : i ≤ b.length) :
    Calls Try.prog 36 #[.slice A b.length c, .int .i64 i] w fun e w' => e = .returned (.tuple #[.int .i64 ((longest b i).1 : Nat), .int .i64 ((longest b i).2 : Nat)]) ∧ ∃ n, w' = w.drewN n := by
  go_enter Try.func36, Try.ntmps36
  go_wp2_with fail
  go_loopw [6, 7, 8] (fun best back d wr => LongRel b i w best back d wr) (fun _ _ d _ => 4097 - (intOf d).toNat)
  case atStart => exact ⟨1, 0, 0, 0, rfl, rfl, rfl, by omega, by omega, by omega, rfl, rfl⟩
  case round =>
    obtain ⟨d, q, n, m, rfl, rfl, rfl, hd1, hd2, hn, hbst, hwr⟩ := hrel
    have hrw : Rd wr B 1 A b.length (bc b) := by rw [hwr.out]; exact hr.drewN q
    by_cases h1 : d ≤ 4096
    · have d1 : decide ((d : Int) ≤ 4096) = true := by simp; omega
      have d1' : (d : Int) ≤ 4096 := by omega
      by_cases h2 : d ≤ i
      · have d2 : decide (d ≤ i) = true := by simp; omega
        have d2' : (d : Int) ≤ (i : Int) := by omega
        have ha := (alike_le b (i - d) i).1
        have f1 : IntKind.i64.wrap ((i : Int) - (d : Int)) = (i : Int) - (d : Int) := IntWalk.i64_in _ (by omega)
        have f2 : (i : Int) - (d : Int) = ((i - d : Nat) : Int) := by omega
        have hst : Hid (bestD b i d = if n < alikeN b (i - d) i then (alikeN b (i - d) i, d) else (n, m)) := by
          unfold Hid
          have e : d = (d - 1) + 1 := by omega
          rw [e, bestD, ← e, hbst.out]
        obtain ⟨x, hx⟩ : ∃ x, x = alikeN b (i - d) i := ⟨_, rfl⟩
        rw [← hx] at hst ha
        have HX := Lib.hid hx
        clear hx
        go_wp2_with fail
        refine (refalike_calls A b c (i - d) i wr B hrw hb (by omega) hi).mono ?_
        rintro e w1 ⟨rfl, q1, hw1⟩
        have hw1' : Hid (w1 = w.drewN (q + q1)) := by unfold Hid; rw [hw1, hwr.out, World.drewN_drewN]
        rw [← HX.out]
        clear hw1 f1 f2
        by_cases hlt : n < x
        · rw [if_pos hlt] at hst
          have hltd : decide ((n : Int) < (x : Int)) = true := by simp; omega
          have hlti : (n : Int) < (x : Int) := by omega
          go_wp2_with fail
          exact ⟨⟨d + 1, q + q1, x, d, rfl, rfl, by go_num, by omega, by omega, ha, hst, hw1'⟩, by simp [intOf]; omega⟩
        · rw [if_neg hlt] at hst
          have hltd : decide ((n : Int) < (x : Int)) = false := by simp; omega
          have hlti : ¬ ((n : Int) < (x : Int)) := by omega
          go_wp2_with fail
          exact ⟨⟨d + 1, q + q1, n, m, rfl, rfl, by go_num, by omega, by omega, hn, hst, hw1'⟩, by simp [intOf]; omega⟩
      · have d2 : decide (d ≤ i) = false := by simp; omega
        have d2' : ¬ ((d : Int) ≤ (i : Int)) := by omega
        have hfin : Hid (longest b i = (n, m)) := by
          unfold Hid longest
          rw [← hbst.out]
          congr 1
          omega
        go_wp2_with fail
        go_ret2
        rw [hfin.out]
        exact ⟨rfl, q, hwr.out⟩
    · have d1 : decide ((d : Int) ≤ 4096) = false := by simp; omega
      have d1' : ¬ ((d : Int) ≤ 4096) := by omega
      have hfin : Hid (longest b i = (n, m)) := by
        unfold Hid longest
        rw [← hbst.out]
        congr 1
        omega
      go_wp2_with fail
      go_ret2
      rw [hfin.out]
      exact ⟨rfl, q, hwr.out⟩

/-- Bytes that are handed back, read alone. -/
def RetS (w : World) (l : List UInt8) (e : Ending) (w' : World) : Prop :=
  ∃ (l' : List UInt8) (A : Option Addr) (c : Nat), Hid (l' = l) ∧ e = .returned (.slice A l'.length c) ∧ Rd w' w'.heap.size 1 A l'.length (bc l') ∧ Below w.heap.size w w' ∧ l'.length ≤ c ∧ c ≤ maxLen

set_option maxRecDepth 100000 in
set_option maxHeartbeats 800000 in
theorem refrun_calls (A : Option Addr) (out : List UInt8) (c : Nat) (A2 : Option Addr) (l : List UInt8) (n c2 : Nat) (w : World) (hn : n = l.length) (hr : Rd w w.heap.size 1 A out.length (bc out)) (hc : out.length ≤ c) (hc2 : c ≤ maxLen) (hr2 : Rd w w.heap.size 1 A2 n (bc l))
    (hl : out.length + 9 + n ≤ 140737488355328) :
    Calls Try.prog 37 #[.slice A out.length c, .slice A2 n c2] w (RetS w (out ++ runB l)) := by
  by_cases h0 : l = []
  · subst h0
    subst hn
    go_enter Try.func37, Try.ntmps37
    go_wp2_with fail
    go_ret
    exact ⟨out, A, c, by simp [Hid, runB], rfl, hr, Below.refl _ _, hc, hc2⟩
  · have hp : 0 < l.length := List.length_pos_iff.2 h0
    have HN := Lib.hid hn
    have hp2 : 0 < n := by omega
    have hz : ((n : Int) == 0) = false := by simp; omega
    have f1 : IntKind.i64.wrap ((n : Int) - 1) = (n : Int) - 1 := IntWalk.i64_in _ (by omega)
    have hcl : Hid (clampN (2 * ((n : Int) - 1)) = 2 * (l.length - 1)) := by unfold Hid clampN; omega
    clear hn hp
    go_enter Try.func37, Try.ntmps37
    go_wp2_with fail
    refine (RefPutNum_calls A out c _ w hr (by omega)).mono ?_
    rintro e w1 ⟨l1, A1, c1, e1, rfl, ho1, hb1, i1, i2⟩
    have hl1 : l1.length ≤ out.length + 9 := by
      rw [e1.out, List.length_append]
      have := num_length_le 8 (clampN (2 * ((n : Int) - 1))) (by have := clampN_le (2 * ((n : Int) - 1)); unfold mostNum at this; omega)
      omega
    have hr2' := (hr2.belowW hb1 (Nat.le_refl _)).more hb1.size
    go_wp2_with (at_builtin; refine app8 rfl (.tmp 14) (.tmp 15) rfl w.heap.size _ l1.length l1 rfl ho1 w1.heap.size A2 n c2 l rfl hr2' (by omega) hb1.size ?_)
    intro l2 A3 c3 w2 e2 ho2 hb2 _ _ i3 i4
    go_wp2_with fail
    go_ret
    refine ⟨l2, A3, c3, ?_, rfl, Rd.of_own ho2, hb1.trans hb2, i3, i4⟩
    unfold Hid runB
    rw [e2.out, e1.out, hcl.out, if_neg h0, List.append_assoc]

set_option maxRecDepth 100000 in
set_option maxHeartbeats 800000 in
theorem run_calls (A : Option Addr) (out : List UInt8) (c : Nat) (A2 : Option Addr) (l : List UInt8) (n c2 : Nat) (w : World) (hn : n = l.length) (hr : Rd w w.heap.size 1 A out.length (bc out)) (hc : out.length ≤ c) (hc2 : c ≤ maxLen) (hr2 : Rd w w.heap.size 1 A2 n (bc l))
    (hl : out.length + 9 + n ≤ 140737488355328) :
    Calls Try.prog 35 #[.slice A out.length c, .slice A2 n c2] w (RetS w (out ++ runB l)) := by
  by_cases h0 : l = []
  · subst h0
    subst hn
    go_enter Try.func35, Try.ntmps35
    go_wp2_with fail
    go_ret
    exact ⟨out, A, c, by simp [Hid, runB], rfl, hr, Below.refl _ _, hc, hc2⟩
  · have hp : 0 < l.length := List.length_pos_iff.2 h0
    have HN := Lib.hid hn
    have hp2 : 0 < n := by omega
    have hz : ((n : Int) == 0) = false := by simp; omega
    have f1 : IntKind.i64.wrap ((n : Int) - 1) = (n : Int) - 1 := IntWalk.i64_in _ (by omega)
    have hcl : Hid (clampN (2 * ((n : Int) - 1)) = 2 * (l.length - 1)) := by unfold Hid clampN; omega
    clear hn hp
    go_enter Try.func35, Try.ntmps35
    go_wp2_with fail
    refine (PutNum_calls A out c _ w hr (by omega)).mono ?_
    rintro e w1 ⟨l1, A1, c1, e1, rfl, ho1, hb1, i1, i2⟩
    have hl1 : l1.length ≤ out.length + 9 := by
      rw [e1.out, List.length_append]
      have := num_length_le 8 (clampN (2 * ((n : Int) - 1))) (by have := clampN_le (2 * ((n : Int) - 1)); unfold mostNum at this; omega)
      omega
    have hr2' := (hr2.belowW hb1 (Nat.le_refl _)).more hb1.size
    go_wp2_with (at_builtin; refine app8 rfl (.tmp 14) (.tmp 15) rfl w.heap.size _ l1.length l1 rfl ho1 w1.heap.size A2 n c2 l rfl hr2' (by omega) hb1.size ?_)
    intro l2 A3 c3 w2 e2 ho2 hb2 _ _ i3 i4
    go_wp2_with fail
    go_ret
    refine ⟨l2, A3, c3, ?_, rfl, Rd.of_own ho2, hb1.trans hb2, i3, i4⟩
    unfold Hid runB
    rw [e2.out, e1.out, hcl.out, if_neg h0, List.append_assoc]

/-- A round of Press: the bytes laid so far and what is still to come. -/
def PressRel (b : List UInt8) (w : World) (out frm i : Value) (wr : World) : Prop :=
  ∃ (k f : Nat) (l : List UInt8) (A : Option Addr) (c : Nat), out = .slice A l.length c ∧ frm = .int .i64 f ∧ i = .int .i64 k ∧ f ≤ k ∧ k ≤ b.length ∧ Hid (pressL b = l ++ press b k f) ∧
    Rd wr wr.heap.size 1 A l.length (bc l) ∧ Below w.heap.size w wr ∧ l.length ≤ c ∧ c ≤ maxLen

theorem pressL_long {b l : List UInt8} {k f : Nat} (hb : b.length ≤ 1048576) (h : pressL b = l ++ press b k f) : l.length ≤ 1310730 := by
  have h1 := pressL_cost b hb
  rw [h, List.length_append] at h1
  omega
theorem clampN_of {k : Nat} (h : k ≤ 4611686018427387903) : clampN (k : Int) = k := by unfold clampN; omega

set_option maxRecDepth 100000 in
set_option maxHeartbeats 2000000 in
theorem refPress_calls (A : Option Addr) (b : List UInt8) (c : Nat) (w : World) (hr : Rd w w.heap.size 1 A b.length (bc b)) (hb : b.length ≤ 1048576) (hc : b.length ≤ c) :
    Calls Try.prog 28 #[.slice A b.length c] w (RetS w (pressL b)) := by
  go_enter Try.func28, Try.ntmps28
  go_wp2_with fail
  refine (RefPutNum_calls none [] 0 _ w Rd.nil (by decide)).mono ?_
  rintro e w1 ⟨l1, A1, c1, e1, rfl, ho1, hb1, i1, i2⟩
  have hstart : Hid (pressL b = l1 ++ press b 0 0) := by
    unfold Hid pressL
    rw [e1.out, List.nil_append, clampN_of (by omega)]
  clear e1
  go_wp2_with fail
  go_loopw [3, 4, 5] (fun out f i wr => PressRel b w out f i wr) (fun _ _ i _ => b.length - (intOf i).toNat)
  case atStart => exact ⟨0, 0, l1, A1, c1, rfl, rfl, rfl, Nat.le_refl _, Nat.zero_le _, hstart, Rd.of_own ho1, hb1, i1, i2⟩
  case round =>
    clear ho1 hb1 hstart i1 i2
    obtain ⟨k, f, l, A1, c1, rfl, rfl, rfl, hfk, hk, heq, hro, hbel, i1, i2⟩ := hrel
    have hlb := pressL_long hb heq.out
    have hs := hbel.size
    have hrb := (hr.belowW hbel (Nat.le_refl _)).more hs
    by_cases hlt : k < b.length
    · have hki : (k : Int) < (b.length : Int) := by omega
      go_wp2_with fail
      refine (reflongest_calls A b c k wr _ hrb (by omega) (by omega)).mono ?_
      rintro e w2 ⟨rfl, q, hw2⟩
      have hro2 : Rd w2 w2.heap.size 1 A1 l.length (bc l) := by rw [hw2]; exact hro.drewN q
      have hrb2 : Rd w2 w2.heap.size 1 A b.length (bc b) := by rw [hw2]; exact hrb.drewN q
      have hbel2 : Below w.heap.size w w2 := by rw [hw2]; exact hbel.drewN' q
      clear hw2 hro hrb hbel hs
      have hs := hbel2.size
      have hll := longest_le b k
      have hsp := longest_spec (b := b) (i := k)
      obtain ⟨n, hn⟩ : ∃ n, n = (longest b k).1 := ⟨_, rfl⟩
      obtain ⟨d, hd⟩ : ∃ d, d = (longest b k).2 := ⟨_, rfl⟩
      rw [← hn, ← hd] at hsp ⊢
      rw [← hn] at hll
      by_cases h4 : n < 4
      · have h4i : (n : Int) < 4 := by omega
        have heq' : Hid (pressL b = l ++ press b (k + 1) f) := by unfold Hid; rw [heq.out, press_next hlt (by rw [← hn]; exact h4)]
        have HN := Lib.hid hn
        have HD := Lib.hid hd
        clear hn hd hsp
        go_wp2_with fail
        exact ⟨⟨k + 1, f, l, A1, c1, rfl, rfl, by go_num, by omega, by omega, heq', hro2, hbel2, i1, i2⟩, by simp [intOf]; omega⟩
      · have hsp := hsp (by omega)
        have h4i : ¬ ((n : Int) < 4) := by omega
        have heq' : Hid (pressL b = l ++ (runB ((b.drop f).take (k - f)) ++ (num (2 * (n - 4) + 1) ++ (num d ++ press b (k + n) (k + n))))) := by unfold Hid; rw [heq.out, press_copy hlt (by rw [← hn]; omega), ← hn, ← hd]
        have hcut := hrb2.cut (lo := f) (hi := k) (cap := c) hfk hk hc
        rw [if_neg (by omega), Nat.mul_one, Nat.mul_one, bc_drop, bc_take] at hcut
        have hd1 := hsp.1
        have hd2 := hsp.2.2.1
        have hn2 := hsp.2.2.2.1
        have hn3 := hsp.2.2.2.2.1
        have HN := Lib.hid hn
        have HD := Lib.hid hd
        clear hn hd hsp heq
        have hfi : (f : Int) ≤ (k : Int) := by omega
        have hkc : (k : Int) ≤ (c : Int) := by omega
        have hcf : ¬ (c = f) := by omega
        go_wp2_with fail
        refine (refrun_calls A1 l c1 _ ((b.drop f).take (k - f)) (k - f) _ w2 (by rw [List.length_take, List.length_drop]; omega) hro2 i1 i2 hcut (by omega)).mono ?_
        rintro e w3 ⟨l3, A3, c3, e3, rfl, hr3, hb3, j1, j2⟩
        go_wp2_with fail
        have hl3 : l3.length ≤ 2359315 := by
          have := (runB_cost ((b.drop f).take (k - f)) (by rw [List.length_take, List.length_drop]; omega)).2.2.2
          rw [List.length_take, List.length_drop] at this
          rw [e3.out, List.length_append]
          omega
        have hcl1 : Hid (clampN (2 * ((n : Int) - 4) + 1) = 2 * (n - 4) + 1) := by unfold Hid clampN; omega
        have hcl2 : Hid (clampN (d : Int) = d) := clampN_of (by omega)
        refine (RefPutNum_calls A3 l3 c3 _ w3 hr3 (by omega)).mono ?_
        rintro e w4 ⟨l4, A4, c4, e4, rfl, ho4, hb4, j3, j4⟩
        have hl4 : l4.length ≤ 2359324 := by
          have := num_length_le 8 (2 * (n - 4) + 1) (by omega)
          rw [e4.out, hcl1.out, List.length_append]
          omega
        go_wp2_with fail
        refine (RefPutNum_calls A4 l4 c4 _ w4 (Rd.of_own ho4) (by omega)).mono ?_
        rintro e w5 ⟨l5, A5, c5, e5, rfl, ho5, hb5, j5, j6⟩
        have hfin : Hid (pressL b = l5 ++ press b (k + n) (k + n)) := by
          unfold Hid
          rw [e5.out, e4.out, e3.out, hcl1.out, hcl2.out, heq'.out]
          simp only [List.append_assoc]
        have hbel5 := ((hbel2.trans (hb3.mono hs)).trans (hb4.mono (Nat.le_trans hs hb3.size))).trans (hb5.mono (Nat.le_trans (Nat.le_trans hs hb3.size) hb4.size))
        go_wp2_with fail
        exact ⟨⟨k + n, k + n, l5, A5, c5, rfl, by go_num, by go_num, Nat.le_refl _, hn3, hfin, Rd.of_own ho5, hbel5, j5, j6⟩, by simp [intOf]; omega⟩
    · have hki : ¬ ((k : Int) < (b.length : Int)) := by omega
      have htail := hrb.tail (k := f) (cap := c) (by omega) hc
      have hfin : Hid (pressL b = l ++ runB (b.drop f)) := by unfold Hid; rw [heq.out, press_end (by omega)]
      have hfi : (f : Int) ≤ (b.length : Int) := by omega
      by_cases hcf : c = f
      · rw [if_pos hcf] at htail
        have HC := Lib.hid hcf
        go_wp2_with fail
        refine (refrun_calls A1 l c1 _ (b.drop f) (b.length - f) _ wr (by rw [List.length_drop]) hro i1 i2 htail (by omega)).mono ?_
        rintro e w3 ⟨l3, A3, c3, e3, rfl, hr3, hb3, j1, j2⟩
        go_wp2_with fail
        go_ret
        exact ⟨l3, A3, c3, by unfold Hid; rw [e3.out, hfin.out], rfl, hr3, hbel.trans (hb3.mono hs), j1, j2⟩
      · rw [if_neg hcf] at htail
        have HC := Lib.hid hcf
        go_wp2_with fail
        refine (refrun_calls A1 l c1 _ (b.drop f) (b.length - f) _ wr (by rw [List.length_drop]) hro i1 i2 htail (by omega)).mono ?_
        rintro e w3 ⟨l3, A3, c3, e3, rfl, hr3, hb3, j1, j2⟩
        go_wp2_with fail
        go_ret
        exact ⟨l3, A3, c3, by unfold Hid; rw [e3.out, hfin.out], rfl, hr3, hbel.trans (hb3.mono hs), j1, j2⟩
end Go.Proofs.Ytjikoeokmdnciaa
