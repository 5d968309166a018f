/- The iterator of chunks, walked: what it tells, for each loop body that keeps its word. Conditions: lengths below 2^63. -/
import Derived.Test.YtogjlfpoedeooaaSafe2
namespace Go.Dol
open Go.RowKit
set_option linter.unusedVariables false
/-- Bytes, 64 by 64; of none one chunk of none. -/
def chunksG (l : List UInt8) : List (List UInt8) := if h : l.length = 0 then [] else l.take 64 :: chunksG (l.drop 64)
termination_by l.length
decreasing_by simp only [List.length_drop]; omega
def chunksOf (l : List UInt8) : List (List UInt8) := if l.length = 0 then [[]] else chunksG l
/-- What is to be told still. -/
def restOf (first : Bool) (l : List UInt8) : List (List UInt8) := if first = true then chunksOf l else chunksG l
theorem restOf_next {first : Bool} {l : List UInt8} (h : first = true ∨ 0 < l.length) : restOf first l = l.take 64 :: restOf false (l.drop 64) := by
  have hG : 0 < l.length → chunksG l = l.take 64 :: chunksG (l.drop 64) := fun h => by rw [chunksG, dif_neg (by omega)]
  cases first with
  | true =>
    simp only [restOf, if_true, Bool.false_eq_true, if_false]
    unfold chunksOf
    by_cases h0 : l.length = 0
    · rw [if_pos h0, List.eq_nil_of_length_eq_zero h0]
      have : chunksG ([] : List UInt8) = [] := by rw [chunksG]; rfl
      simp [this]
    · rw [if_neg h0]
      exact hG (by omega)
  | false =>
    rcases h with h | h
    · cases h
    · simp only [restOf, Bool.false_eq_true, if_false]
      exact hG h
theorem restOf_end {l : List UInt8} (h : l.length = 0) : restOf false l = [] := by
  unfold restOf
  rw [if_neg (by decide), chunksG, dif_pos h]
/-- A chunk, with the slice that it is. -/
structure Chunk where
  l : List UInt8
  A : Option Addr
  c : Nat
def Chunk.val (y : Chunk) : Value := .slice y.A y.l.length y.c
/-- How much a slice in a cell holds still. -/
def lenC (x : Nat) (W : World) : Nat := lenV ((W.cell? ⟨x, 0, none⟩).getD undef)
def flagN : Value → Nat
  | .bool true => 1
  | _ => 0
end Go.Dol
namespace Go.Proofs.Ytogjlfpoedeooaa
open Go.RowKit Go.Dol Go.Shelf
attribute [local go_sem] Oper.semAt_some
set_option linter.unusedVariables false

/-- What is said of a chunk when it is told. -/
def ChPr (b : List UInt8) (B : Nat) (pre : List Chunk) (y : Chunk) (W : World) : Prop := y.l.length ≤ 64 ∧ Far W B y.A y.l ∧ y.l.length ≤ y.c ∧ y.c ≤ maxLen ∧ ∃ r, chunksOf b = pre.map (·.l) ++ y.l :: r
/-- What a round must keep. -/
def ChK (B x : Nat) (W W' : World) : Prop := (∀ u, Blk W x 23 [u] → Blk W' x 23 [u]) ∧ ∀ A l, Far W B A l → Far W' B A l
def ChRel (b : List UInt8) (B x : Nat) (J : List Chunk → World → Prop) (f : Value) (wr : World) : Prop :=
  ∃ (first : Bool) (pre : List Chunk) (q : List UInt8) (A : Option Addr) (c : Nat), f = .bool first ∧ Blk wr x 23 [.slice A q.length c] ∧ Far wr B A q ∧ q.length ≤ c ∧ c ≤ maxLen ∧ Hid (J pre wr) ∧ Hid (chunksOf b = pre.map (·.l) ++ restOf first q)

set_option maxRecDepth 100000 in
set_option maxHeartbeats 1600000 in
theorem chunks_seq (F : Fence) (n : Nat) (hF : F.fn 73) (hro : F.round = none) (hn : 1 ≤ n) (x B : Nat) (b : List UInt8) (A : Option Addr) (c : Nat) (w : World) (hX : Blk w x 23 [.slice A b.length c]) (hf : Far w B A b) (hc : b.length ≤ c) (hcm : c ≤ maxLen) (hBx : B ≤ x) :
    SeqCell F n Try.prog 73 #[.pointer (some ⟨x, 0, none⟩)] Chunk.val x (ChPr b B) (ChK B x) (fun xs => xs.map (·.l) = chunksOf b) (fun pre => ∃ r, chunksOf b = pre.map (·.l) ++ r) w := by
  intro l J Jx W hW hJc hY h0
  have hX0 := hX.below hW hX.lt
  have hf0 := hf.below hW
  have HJ := Lib.hid h0
  clear hX hf h0 hW
  refine callsIn_of_wp Try.func73 rfl hF ?_ hro
  simp only [Try.ntmps73, List.size_toArray, List.length_cons, List.length_nil, Nat.reduceAdd, Nat.reduceSub, Array.replicate_succ, Array.replicate_zero, List.push_toArray, List.append_toArray, List.nil_append, List.cons_append]
  gi_wp2
  gi_loopw [3] (fun f wr => ChRel b B x J f wr) (fun f wr => lenC x wr + flagN f)
  case atStart => exact ⟨true, [], b, A, c, rfl, hX0, hf0, hc, hcm, HJ, Lib.hid (by simp [restOf])⟩
  case round =>
    clear hX0 hf0 HJ
    obtain ⟨first, pre, q, A2, c2, rfl, hX2, hf2, hc2, hcm2, hJ2, hR2⟩ := hrel
    have k0 : wr.cell? ⟨x, 0, none⟩ = some (.slice A2 q.length c2) := by rw [hX2.cell]; rfl
    by_cases hgo : first = true ∨ 0 < q.length
    · obtain ⟨k, hk⟩ : ∃ k, k = min q.length 64 := ⟨_, rfl⟩
      have hkI : min (q.length : Int) 64 = (k : Nat) := by omega
      have hkq : k ≤ q.length := by omega
      obtain ⟨mm, em, jm, jm', ⟨rm, km, km'⟩, _, sm⟩ := sl_to (k := k) (min (q.length : Int) 64) hkI hf2.1 hkq hc2 hcm2
      obtain ⟨q', A', c', eq, jq, jq', hq', _, sq, _, sn⟩ := sl_from (k := k) (min (q.length : Int) 64) hkI hf2.1 hkq hc2 hcm2
      have et : q.take k = q.take 64 := by
        by_cases h6 : q.length ≤ 64
        · rw [List.take_of_length_le (by omega), List.take_of_length_le h6]
        · rw [show k = 64 by omega]
      have ed : q.drop k = q.drop 64 := by
        by_cases h6 : q.length ≤ 64
        · rw [List.drop_eq_nil_of_le (by omega), List.drop_eq_nil_of_le h6]
        · rw [show k = 64 by omega]
      have hnext := restOf_next hgo
      have hP : ChPr b B pre ⟨mm, A2, c2⟩ wr := by
        refine ⟨by show mm.length ≤ 64; omega, hf2.piece (k := 0) ⟨rm, km, km'⟩ (Nat.le_refl _) (by show mm.length + 0 ≤ q.length; omega) rfl, km, km', restOf false (q.drop 64), ?_⟩
        rw [hR2.out, hnext]
        show pre.map (·.l) ++ q.take 64 :: _ = pre.map (·.l) ++ mm :: _
        rw [em.out, et]
      obtain ⟨fn, tmps, assign, body, hy, hRn⟩ := hY pre ⟨mm, A2, c2⟩ wr hJ2.out hP
      change (Instr.yield l #[.slice A2 mm.length c2]).run Try.prog wr = .ok (.round l fn tmps assign body) wr at hy
      have hfq : Far wr B A' q' := hf2.piece (k := 0) hq' (Nat.le_refl _) (by omega) sq
      have hmeas : (first = true → True) ∧ q'.length + flagN (.bool false) < q.length + flagN (.bool first) := by
        refine ⟨fun _ => trivial, ?_⟩
        rcases hgo with rfl | hgo
        · simp only [flagN]; omega
        · have h6 : q'.length < q.length := by rw [eq.out, List.length_drop]; omega
          cases first <;> simp only [flagN] <;> omega
      have hT : Hid (chunksOf b = (pre ++ [(⟨mm, A2, c2⟩ : Chunk)]).map (·.l) ++ restOf false q') := by
        unfold Hid
        rw [hR2.out, hnext, eq.out, ed, List.map_append]
        simp only [List.map_cons, List.map_nil, List.append_assoc, List.cons_append, List.nil_append]
        rw [em.out, et]
      have hEQ := Lib.hid hk
      clear hk hkI et ed hnext hP
      cases first with
      | true =>
        clear hgo
        gi_wp2
        refine hRn.mono ?_
        rintro e W3 (⟨rfl, hJ3, hk3⟩ | ⟨rfl, hJx3⟩)
        · have hX3 := hk3.1 _ hX2
          have hf4 := hk3.2 _ _ hfq
          have e0 : W3.cell? ⟨x, 0, none⟩ = some (.slice A2 q.length c2) := by rw [hX3.cell]; rfl
          have z0 := hX3.free 0
          gi_wp2
          have hX4 := hX3.set 0 (.slice A' q'.length c')
          refine ⟨⟨false, pre ++ [⟨mm, A2, c2⟩], q', A', c', rfl, hX4, ?_, hq'.2.1, hq'.2.2, Lib.hid (hJc _ _ _ hJ3), hT⟩, ?_⟩
          · exact hf4.keep (grown_setCell (World.grownBy.refl W3 _) 0 _) (Other.blk hX3 (by decide) hBx)
          · have e1 : lenC x wr = q.length := by unfold lenC; rw [k0]; rfl
            have e2 : lenC x (W3.setCell ⟨x, 0, none⟩ (.slice A' q'.length c')) = q'.length := by unfold lenC; rw [hX4.cell]; rfl
            rw [e1, e2]
            exact hmeas.2
        · gi_wp2
          refine bodyPost_ret (results_none (by rfl) _ _ _) rfl ?_
          exact ⟨⟨_, rfl⟩, .inr ⟨pre ++ [⟨mm, A2, c2⟩], ⟨_, hT.out⟩, hJx3⟩⟩
      | false =>
        have d0 : 0 < q.length := hgo.resolve_left (by decide)
        have d1 : decide ((q.length : Int) > 0) = true := decide_eq_true (by omega)
        have d2 : decide ((0 : Int) < (q.length : Int)) = true := decide_eq_true (by omega)
        have d3 : decide (0 < q.length) = true := decide_eq_true d0
        clear hgo
        gi_wp2
        refine hRn.mono ?_
        rintro e W3 (⟨rfl, hJ3, hk3⟩ | ⟨rfl, hJx3⟩)
        · have hX3 := hk3.1 _ hX2
          have hf4 := hk3.2 _ _ hfq
          have e0 : W3.cell? ⟨x, 0, none⟩ = some (.slice A2 q.length c2) := by rw [hX3.cell]; rfl
          have z0 := hX3.free 0
          gi_wp2
          have hX4 := hX3.set 0 (.slice A' q'.length c')
          refine ⟨⟨false, pre ++ [⟨mm, A2, c2⟩], q', A', c', rfl, hX4, ?_, hq'.2.1, hq'.2.2, Lib.hid (hJc _ _ _ hJ3), hT⟩, ?_⟩
          · exact hf4.keep (grown_setCell (World.grownBy.refl W3 _) 0 _) (Other.blk hX3 (by decide) hBx)
          · have e1 : lenC x wr = q.length := by unfold lenC; rw [k0]; rfl
            have e2 : lenC x (W3.setCell ⟨x, 0, none⟩ (.slice A' q'.length c')) = q'.length := by unfold lenC; rw [hX4.cell]; rfl
            rw [e1, e2]
            exact hmeas.2
        · gi_wp2
          refine bodyPost_ret (results_none (by rfl) _ _ _) rfl ?_
          exact ⟨⟨_, rfl⟩, .inr ⟨pre ++ [⟨mm, A2, c2⟩], ⟨_, hT.out⟩, hJx3⟩⟩
    · obtain rfl : first = false := by cases first with | true => exact absurd (.inl rfl) hgo | false => rfl
      have hq0 : Hid (q.length = 0) := by unfold Hid; omega
      have d1 : decide ((q.length : Int) > 0) = false := decide_eq_false (by omega)
      have d2 : decide ((0 : Int) < (q.length : Int)) = false := decide_eq_false (by omega)
      have d3 : decide (0 < q.length) = false := decide_eq_false (by omega)
      clear hgo
      gi_wp2
      go_end0
      refine ⟨⟨_, rfl⟩, .inl ⟨pre, ?_, hJ2.out⟩⟩
      have h1 := hR2.out
      rw [restOf_end hq0.out, List.append_nil] at h1
      exact h1.symm
end Go.Proofs.Ytogjlfpoedeooaa
