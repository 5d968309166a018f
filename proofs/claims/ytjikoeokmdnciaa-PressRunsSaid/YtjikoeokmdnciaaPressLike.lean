/- The walks of the laws PressLike and PressRuns. Conditions: none. -/
import Derived.Test.YtjikoeokmdnciaaPressAwake
namespace Go.Proofs.Ytjikoeokmdnciaa
open Go.RowKit Go.Dol
set_option linter.unusedVariables false

/-- Bytes are laid one by one. -/
def LaidRel (f : Nat → List UInt8) (K : Nat) (w : World) (b i : Value) (wr : World) : Prop :=
  ∃ (j : Nat) (l : List UInt8) (A : Option Addr) (c : Nat), b = .slice A l.length c ∧ i = .int .i64 (j : Nat) ∧ j ≤ K ∧ Hid (l = f j) ∧ Hid (l.length = j) ∧
    wr.ownsRow w.heap.size 5 1 (.slice A l.length c) l.length (bc l) ∧ Below w.heap.size w wr ∧ l.length ≤ c ∧ c ≤ maxLen

set_option maxRecDepth 100000 in
set_option maxHeartbeats 400000 in
theorem pressLike_walk (n k : Int) (w : World) (hn : (Lit.int .i64 n).wf = true) (hk : (Lit.int .u8 k).wf = true) :
    Calls Try.prog 8 #[.int .i64 n, .int .u8 k] w fun e w' => e = .returned (.bool true) ∧ Below w.heap.size w w' := by
  have hk0 : 0 ≤ k ∧ k < 256 := by
    have h := hk
    simp [Lit.wf, IntKind.min, IntKind.max, IntKind.signed, IntKind.bits] at h
    omega
  clear hn hk
  obtain ⟨dd, hdd⟩ : ∃ d : UInt8, (d.toNat : Int) = k := ⟨UInt8.ofNat k.toNat, by rw [UInt8.toNat_ofNat']; omega⟩
  obtain ⟨m, hm1, hm2⟩ := i64_low n 4095 (by omega)
  replace hm2 : bits .and .i64 n 4095 = (m : Int) := hm2
  obtain ⟨K, hK⟩ : ∃ K, K = 5 + m := ⟨_, rfl⟩
  have f1 : IntKind.i64.wrap (5 + (m : Int)) = (K : Int) := by rw [IntWalk.i64_in _ (by omega)]; omega
  have hK5 : 5 ≤ K := by omega
  have hKl : K ≤ 4100 := by omega
  have fq : (K : Int).tdiv 64 = ((K / 64 : Nat) : Int) := by rw [Int.tdiv_eq_ediv_of_nonneg (by omega)]; omega
  obtain ⟨t, ht⟩ : ∃ t, t = K / 64 := ⟨_, rfl⟩
  rw [← ht] at fq
  have htl : t ≤ 100 := by omega
  have f3 : IntKind.i64.wrap (t : Int) = (t : Int) := IntWalk.i64_in _ (by omega)
  have f4 : IntKind.i64.wrap (20 + (t : Int)) = 20 + (t : Int) := IntWalk.i64_in _ (by omega)
  have HD := Lib.hid hdd
  have HTT := Lib.hid ht
  clear hdd ht hK hm1
  go_enter Try.func8, Try.ntmps8
  go_wp2_with fail
  refine (awake_calls w).mono ?_
  rintro e w0 ⟨rfl, hb0⟩
  have s0 := hb0.size
  go_wp2_with fail
  go_loopw [7, 8] (fun b i wr => LaidRel (fun j => List.replicate j dd) K w0 b i wr) (fun _ i _ => K - (intOf i).toNat)
  case atStart => exact ⟨0, [], none, 0, rfl, rfl, Nat.zero_le _, rfl, rfl, ⟨by simp [bc], .inl ⟨rfl, rfl⟩⟩, Below.refl _ _, Nat.le_refl _, by unfold maxLen; omega⟩
  case round =>
    obtain ⟨j, l, A, c, rfl, rfl, hj, hl, hlj, ho, hbel, i1, i2⟩ := hrel
    have hll : l.length ≤ 4100 := by have := hlj.out; omega
    have hs := hbel.size
    by_cases hlt : j < K
    · have d1 : decide ((j : Int) < (K : Int)) = true := by simp; omega
      have d1' : (j : Int) < (K : Int) := by omega
      go_wp2_with (at_builtin; refine push8 rfl (.tmp 18) (.tmp 20) rfl w0.heap.size _ l.length l rfl ho rfl hk0.1 hk0.2 (by omega) hs ?_)
      intro d l4 A4 c4 w4 hd e4 ho4 hb4 _ _ i5 i6
      go_wp2_with fail
      refine ⟨⟨j + 1, l4, A4, c4, rfl, by go_num, by omega, ?_, ?_, ho4, hbel.trans hb4, i5, i6⟩, by simp [intOf]; omega⟩
      · have : d = dd := UInt8.toNat_inj.1 (by have := hd.out; have := HD.out; omega)
        show l4 = List.replicate (j + 1) dd
        rw [e4.out, show l = List.replicate j dd from hl, this, ← List.replicate_succ']
      · unfold Hid
        rw [e4.out, List.length_append, hlj.out]
        rfl
    · have d1 : decide ((j : Int) < (K : Int)) = false := by simp; omega
      have d1' : ¬ (j : Int) < (K : Int) := by omega
      have hjK : j = K := by omega
      have hL : Hid (l = List.replicate K dd) := by rw [← hjK]; exact hl
      clear hjK
      go_wp2_with fail
      refine (Press_calls A l c wr (Rd.of_own ho) (by omega) i1).mono ?_
      rintro e w1 ⟨q1, A1, c1, e1, rfl, hr1, hb1, i3, i4⟩
      have hcost := pressL_rep (k := K) dd hK5 hKl
      rw [← hL.out, ← e1.out, ← HTT.out] at hcost
      have d2 : decide ((q1.length : Int) ≤ 20 + (t : Int)) = true := by simp; omega
      have d2' : (q1.length : Int) ≤ 20 + (t : Int) := by omega
      go_wp2_with fail
      go_ret
      exact ⟨rfl, (hb0.next hbel).trans (hb1.mono (Nat.le_trans s0 hs))⟩

theorem upTo_get (K i : Nat) (h : i < K) : ((List.range K).map UInt8.ofNat)[i]? = some (UInt8.ofNat i) := by
  rw [List.getElem?_map, List.getElem?_range h]
  rfl
theorem upTo_apart {K : Nat} (hK : K ≤ 256) (i d : Nat) (h : i < ((List.range K).map UInt8.ofNat).length) (h1 : 1 ≤ d) (h2 : d ≤ i) : ((List.range K).map UInt8.ofNat)[i - d]? ≠ ((List.range K).map UInt8.ofNat)[i]? := by
  have hi : i < K := by simpa using h
  rw [upTo_get K i hi, upTo_get K (i - d) (by omega)]
  intro e
  injection e with e
  have := congrArg UInt8.toNat e
  rw [UInt8.toNat_ofNat', UInt8.toNat_ofNat'] at this
  omega

set_option maxRecDepth 100000 in
set_option maxHeartbeats 400000 in
theorem pressRuns_walk (n : Int) (w : World) (hn : (Lit.int .i64 n).wf = true) :
    Calls Try.prog 11 #[.int .i64 n] w fun e w' => e = .returned (.bool true) ∧ Below w.heap.size w w' := by
  clear hn
  obtain ⟨m, hm1, hm2⟩ := i64_low n 255 (by omega)
  replace hm2 : bits .and .i64 n 255 = (m : Int) := hm2
  obtain ⟨K, hK⟩ : ∃ K, K = 1 + m := ⟨_, rfl⟩
  have f1 : IntKind.i64.wrap (1 + (m : Int)) = (K : Int) := by rw [IntWalk.i64_in _ (by omega)]; omega
  have hK1 : 1 ≤ K := by omega
  have hKl : K ≤ 256 := by omega
  have f3 : IntKind.i64.wrap ((K : Int) - 1) = (K : Int) - 1 := IntWalk.i64_in _ (by omega)
  have f4 : IntKind.i64.wrap (2 * ((K : Int) - 1)) = 2 * ((K : Int) - 1) := IntWalk.i64_in _ (by omega)
  have hcl1 : Hid (clampN (K : Int) = K) := clampN_of (by omega)
  have hcl2 : Hid (clampN (2 * ((K : Int) - 1)) = 2 * (K - 1)) := by unfold Hid clampN; omega
  clear hK hm1
  go_enter Try.func11, Try.ntmps11
  go_wp2_with fail
  refine (awake_calls w).mono ?_
  rintro e w0 ⟨rfl, hb0⟩
  have s0 := hb0.size
  go_wp2_with fail
  go_loopw [5, 6] (fun b i wr => LaidRel (fun j => (List.range j).map UInt8.ofNat) K w0 b i wr) (fun _ i _ => K - (intOf i).toNat)
  case atStart => exact ⟨0, [], none, 0, rfl, rfl, Nat.zero_le _, rfl, rfl, ⟨by simp [bc], .inl ⟨rfl, rfl⟩⟩, Below.refl _ _, Nat.le_refl _, by unfold maxLen; omega⟩
  case round =>
    obtain ⟨j, l, A, c, rfl, rfl, hj, hl, hlj, ho, hbel, i1, i2⟩ := hrel
    have hll : l.length ≤ 256 := by have := hlj.out; omega
    have hs := hbel.size
    by_cases hlt : j < K
    · have d1 : decide ((j : Int) < (K : Int)) = true := by simp; omega
      have d1' : (j : Int) < (K : Int) := by omega
      have fu : IntKind.u8.wrap (j : Int) = (j : Int) := by rw [IntKind.wrap_u8]; omega
      go_wp2_with (at_builtin; refine push8 rfl (.tmp 18) (.tmp 21) rfl w0.heap.size _ l.length l rfl ho rfl (Int.natCast_nonneg j) (by omega) (by omega) hs ?_)
      intro d l4 A4 c4 w4 hd e4 ho4 hb4 _ _ i5 i6
      go_wp2_with fail
      refine ⟨⟨j + 1, l4, A4, c4, rfl, by go_num, by omega, ?_, ?_, ho4, hbel.trans hb4, i5, i6⟩, by simp [intOf]; omega⟩
      · have : d = UInt8.ofNat j := UInt8.toNat_inj.1 (by have := hd.out; rw [UInt8.toNat_ofNat']; omega)
        show l4 = (List.range (j + 1)).map UInt8.ofNat
        rw [e4.out, show l = (List.range j).map UInt8.ofNat from hl, this, List.range_succ, List.map_append]
        rfl
      · unfold Hid
        rw [e4.out, List.length_append, hlj.out]
        rfl
    · have d1 : decide ((j : Int) < (K : Int)) = false := by simp; omega
      have d1' : ¬ (j : Int) < (K : Int) := by omega
      have hjK : j = K := by omega
      have hL : Hid (l = (List.range K).map UInt8.ofNat) := by rw [← hjK]; exact hl
      have hLK : Hid (l.length = K) := by rw [← hjK]; exact hlj
      have hP : Hid (pressL l = num K ++ (num (2 * (K - 1)) ++ l)) := by
        have := pressL_apart (b := l) (fun h => by have := hLK.out; rw [h] at this; simp at this; omega) (fun i d h h1 h2 => by
          rw [hL.out] at h ⊢
          exact upTo_apart hKl i d h h1 h2)
        rw [hLK.out] at this
        exact this
      clear hjK
      go_wp2_with fail
      refine (Press_calls A l c wr (Rd.of_own ho) (by omega) i1).mono ?_
      rintro e w1 ⟨q1, A1, c1, e1, rfl, hr1, hb1, i3, i4⟩
      go_wp2_with fail
      refine (RefPutNum_calls none [] 0 _ w1 Rd.nil (by decide)).mono ?_
      rintro e w2 ⟨l2, A2, c2, e2, rfl, ho2, hb2, i5, i6⟩
      have e2' : Hid (l2 = num K) := by unfold Hid; rw [e2.out, hcl1.out]; rfl
      have hl2 : l2.length ≤ 2 := by rw [e2'.out]; exact num2 (by omega)
      go_wp2_with fail
      refine (RefPutNum_calls A2 l2 c2 _ w2 (Rd.of_own ho2) (by omega)).mono ?_
      rintro e w3 ⟨l3, A3, c3, e3, rfl, ho3, hb3, i7, i8⟩
      have e3' : Hid (l3 = num K ++ num (2 * (K - 1))) := by unfold Hid; rw [e3.out, hcl2.out, e2'.out]
      have hl3 : l3.length ≤ 4 := by
        have := num2 (n := 2 * (K - 1)) (by omega)
        rw [e3'.out, List.length_append, ← e2'.out]
        omega
      have hq1 : Hid (q1 = l3 ++ l) := by unfold Hid; rw [e1.out, hP.out, e3'.out, List.append_assoc]
      have hql : q1.length = K + l3.length := by rw [hq1.out, List.length_append, hLK.out]; omega
      have hqi : (q1.length : Int) = (K : Int) + (l3.length : Int) := by omega
      have f5 : IntKind.i64.wrap ((K : Int) + (l3.length : Int)) = (K : Int) + (l3.length : Int) := IntWalk.i64_in _ (by omega)
      have d2 : ((q1.length : Int) == (K : Int) + (l3.length : Int)) = true := beq_iff_eq.2 hqi
      have d3 : (l3.length : Int) ≤ (q1.length : Int) := by omega
      have hb13 := hb2.next hb3
      have hr3 := hr1.belowW hb13 (Nat.le_refl _)
      have htail := hr3.tail (k := l3.length) (cap := c1) (by omega) i3
      have hdr : q1.drop l3.length = l := by rw [hq1.out, List.drop_left]
      rw [hdr] at htail
      have hrl := ((Rd.of_own ho).belowW hb1 (Nat.le_refl _)).more hb1.size |>.belowW hb13 (Nat.le_refl _)
      have HQ := Lib.hid hql
      have hall : Below w.heap.size w w3 := (hb0.next hbel).trans ((hb1.next hb13).mono (Nat.le_trans s0 hs))
      clear hdr hql hqi ho hb1 hb2 hb3 hb13
      by_cases hcf : c1 = l3.length
      · have := i3
        have := HQ.out
        omega
      · rw [if_neg hcf] at htail
        have hcf' : ¬ ((c1 : Int) = (l3.length : Int)) := by omega
        go_wp2_with fail
        refine (Same_n _ l _ _ A l l.length c w3 _ _ htail hrl rfl).mono ?_
        rintro e w4 ⟨rfl, rfl⟩
        go_wp2_with fail
        go_ret
        exact ⟨rfl, hall⟩
end Go.Proofs.Ytjikoeokmdnciaa
