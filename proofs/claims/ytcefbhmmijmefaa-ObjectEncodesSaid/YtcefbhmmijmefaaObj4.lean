/- The walks of the layer 'object', its fourth part: may a commit's or a tag's body be? Conditions: lengths below 2^47. -/
import Derived.Test.YtcefbhmmijmefaaObj3
import Derived.Test.YtcefbhmmijmefaaMapL
namespace Go.Dol
open Go.RowKit
/-- The map of how often each was met, as long as none was met twice. -/
def seenL (l : List ByteArray) : List (Value × Value) := l.map fun p => (Value.string p, Value.int .i64 1)
theorem hasS_mem {l : List ByteArray} {p : ByteArray} : hasS l p = true ↔ p ∈ l := by
  unfold hasS
  rw [List.any_eq_true]
  constructor
  · rintro ⟨x, hx, e⟩
    rw [← str_inj (beq_iff_eq.1 e)]
    exact hx
  · intro h
    exact ⟨p, h, beq_iff_eq.2 rfl⟩
theorem seen_none {l : List ByteArray} {p : ByteArray} (h : hasS l p = false) : ∀ q ∈ seenL l, q.1 ≠ Value.string p := by
  intro q hq e
  obtain ⟨x, hx, rfl⟩ := List.mem_map.1 hq
  injection e with e
  subst e
  rw [hasS_mem.2 hx] at h
  cases h
theorem seen_some {l : List ByteArray} {p : ByteArray} (h : hasS l p = true) : (Value.string p, Value.int .i64 1) ∈ seenL l := List.mem_map.2 ⟨p, hasS_mem.1 h, rfl⟩
theorem seen_val {l : List ByteArray} {p : ByteArray} {v : Value} (h : (Value.string p, v) ∈ seenL l) : v = .int .i64 1 := by
  obtain ⟨x, hx, e⟩ := List.mem_map.1 h
  injection e with _ e
  exact e.symm
theorem par_at {l : List ByteArray} {k : Nat} {p : ByteArray} (h : l[k]? = some p) : parAt l k = (decide (p.size = 32) && !hasS (l.take k) p) := by
  unfold parAt
  rw [h]
theorem parsUp_succ {l : List ByteArray} {k : Nat} (h : parsUp l k) (hk : parAt l k = true) : parsUp l (k + 1) := fun i hi => by
  by_cases e : i = k
  · rw [e]; exact hk
  · exact h i (by omega)
end Go.Dol
namespace Go.Proofs.Ytcefbhmmijmefaa
open Go.RowKit Go.Dol
set_option linter.unusedVariables false

theorem str_keyed : Go.Maps.Keyed Try.prog 9 := Go.Maps.string_keyed Try.underlying9
theorem int_zero (w : World) : (zeroValue 3).run Try.prog w = .ok (.int .i64 0) w := by kernel_rfl

theorem key_one {al : List (Value × Value)} {k u v : Value} (h : (al.map Prod.fst).Nodup) (h1 : (k, u) ∈ al) (h2 : (k, v) ∈ al) : u = v := by
  induction al with
  | nil => cases h1
  | cons p ps ih =>
    rw [List.map_cons, List.nodup_cons] at h
    rcases List.mem_cons.1 h1 with e1 | h1 <;> rcases List.mem_cons.1 h2 with e2 | h2
    · rw [← e1] at e2; injection e2 with _ e2; exact e2.symm
    · exact absurd (List.mem_map.2 ⟨_, h2, by rw [← e1]⟩) h.1
    · exact absurd (List.mem_map.2 ⟨_, h1, by rw [← e2]⟩) h.1
    · exact ih h.2 h1 h2
theorem told_is (who : ByteArray) (stamp : Int) (text : ByteArray) (v : Bool) (h : Hid (toldB who stamp text = v)) (w : World) : Calls Try.prog 113 #[.agg #[.string who, .int .i64 stamp, .string text]] w fun e w' => e = .returned (.bool v) ∧ Below w.heap.size w w' :=
  (toldRight_calls who stamp text w).mono fun e w' ⟨h1, h2⟩ => ⟨by rw [h1, h.out], h2⟩

set_option maxRecDepth 100000 in
set_option maxHeartbeats 800000 in
theorem tagRight_calls (target name who : ByteArray) (stamp : Int) (text : ByteArray) (w : World) : Calls Try.prog 119 #[.agg #[.string target, .string name, .string who, .int .i64 stamp, .string text]] w fun e w' =>
    e = .returned (.bool (decide (target.size = 32) && decide (1 ≤ name.size) && decide (name.size ≤ 200) && toldB who stamp text)) ∧ Below w.heap.size w w' := by
  obtain ⟨r, hre⟩ : ∃ r, r = (decide (target.size = 32) && decide (1 ≤ name.size) && decide (name.size ≤ 200) && toldB who stamp text) := ⟨_, rfl⟩
  rw [← hre]
  have HR := Lib.hid hre
  clear hre
  have hb0 : Below w.heap.size w (w.alloc (.cells #[.string target, .string name, .string who, .int .i64 stamp, .string text] 102)) := (Below.refl _ _).alloc (Nat.le_refl _) _
  cases h1 : decide (target.size = 32) with
  | false =>
    have H1 := Lib.hid h1
    have HF : Hid (r = false) := by unfold Hid; rw [HR.out, h1]; rfl
    clear h1
    go_enter Try.func119, Try.ntmps119
    go_wp2_with (go_at_call 111; refine (isId_is target _ H1 _).mono ?_; rintro e w' ⟨rfl, rfl⟩)
    go_ret
    rw [HF.out]
    exact ⟨rfl, hb0⟩
  | true =>
    have H1 := Lib.hid h1
    by_cases h2 : 1 ≤ name.size
    · have d2 : decide ((1 : Int) ≤ (name.size : Int)) = true := decide_eq_true (by omega)
      by_cases h3 : name.size ≤ 200
      · have d3 : decide ((name.size : Int) ≤ 200) = true := decide_eq_true (by omega)
        have HF : Hid (r = toldB who stamp text) := by unfold Hid; rw [HR.out, h1]; simp [h2, h3]
        clear h1 h2 h3
        go_enter Try.func119, Try.ntmps119
        go_wp2_with (first | (go_at_call 111; refine (isId_is target _ H1 _).mono ?_; rintro e w' ⟨rfl, rfl⟩) | (go_at_call 113; refine (toldRight_calls who stamp text _).mono ?_; rintro e w1 ⟨rfl, hb1⟩))
        go_ret
        rw [HF.out]
        exact ⟨rfl, hb0.next hb1⟩
      · have d3 : decide ((name.size : Int) ≤ 200) = false := decide_eq_false (by omega)
        have HF : Hid (r = false) := by unfold Hid; rw [HR.out]; simp [h3]
        clear h1 h2 h3
        go_enter Try.func119, Try.ntmps119
        go_wp2_with (go_at_call 111; refine (isId_is target _ H1 _).mono ?_; rintro e w' ⟨rfl, rfl⟩)
        go_ret
        rw [HF.out]
        exact ⟨rfl, hb0⟩
    · have d2 : decide ((1 : Int) ≤ (name.size : Int)) = false := decide_eq_false (by omega)
      have HF : Hid (r = false) := by unfold Hid; rw [HR.out]; simp [h2]
      clear h1 h2
      go_enter Try.func119, Try.ntmps119
      go_wp2_with (go_at_call 111; refine (isId_is target _ H1 _).mono ?_; rintro e w' ⟨rfl, rfl⟩)
      go_ret
      rw [HF.out]
      exact ⟨rfl, hb0⟩

def CommitRel (l : List ByteArray) (tree : ByteArray) (A : Option Addr) (c : Nat) (who : ByteArray) (stamp : Int) (text : ByteArray) (g B : Nat) (w : World) (i : Value) (wr : World) : Prop :=
  ∃ k : Nat, i = .int .i64 k ∧ k ≤ l.length ∧ Hid (parsUp l k) ∧ Blk wr g 100 [.string tree, .slice A l.length c, .string who, .int .i64 stamp, .string text] ∧ MapL Try.prog 9 wr B (seenL (l.take k)) ∧ Below w.heap.size w wr

set_option maxRecDepth 100000 in
set_option maxHeartbeats 4000000 in
theorem commitRight_calls (tree : ByteArray) (A : Option Addr) (l : List ByteArray) (c : Nat) (who : ByteArray) (stamp : Int) (text : ByteArray) (w : World) (hr : Rd w w.heap.size 1 A l.length (pc l)) (hl : l.length ≤ 140737488355328) (hsz : Hid (∀ p ∈ l, p.size ≤ maxLen)) :
    Calls Try.prog 116 #[.agg #[.string tree, .slice A l.length c, .string who, .int .i64 stamp, .string text]] w fun e w' => e = .returned (.bool (decide (tree.size = 32) && parsB l && toldB who stamp text)) ∧ Below w.heap.size w w' := by
  obtain ⟨r, hre⟩ : ∃ r, r = (decide (tree.size = 32) && parsB l && toldB who stamp text) := ⟨_, rfl⟩
  rw [← hre]
  have HR := Lib.hid hre
  clear hre
  have hB := Blk.new w 100 [.string tree, .slice A l.length c, .string who, .int .i64 stamp, .string text]
  have hb0 : Below w.heap.size w (w.alloc (.cells #[.string tree, .slice A l.length c, .string who, .int .i64 stamp, .string text] 100)) := (Below.refl _ _).alloc (Nat.le_refl _) _
  have hs0 : (w.alloc (.cells #[.string tree, .slice A l.length c, .string who, .int .i64 stamp, .string text] 100)).heap.size = w.heap.size + 1 := by simp
  go_enter Try.func116, Try.ntmps116
  have hmm := @run_makeMap Try.prog
  go_wp2_with fail
  clear hmm
  have hm0 : MapL Try.prog 9 ((w.alloc (.cells #[.string tree, .slice A l.length c, .string who, .int .i64 stamp, .string text] 100)).alloc (.map #[] 0)) (w.heap.size + 1) [] := by rw [← hs0]; exact MapL.new _
  have hB1 := hB.alloc (.map #[] 0)
  have hb1 := hb0.alloc (B := w.heap.size) (by omega) (.map #[] 0)
  obtain ⟨g, hg⟩ : ∃ g, g = w.heap.size := ⟨_, rfl⟩
  obtain ⟨w0, hw0⟩ : ∃ w0, w0 = (w.alloc (.cells #[.string tree, .slice A l.length c, .string who, .int .i64 stamp, .string text] 100)).alloc (.map #[] 0) := ⟨_, rfl⟩
  change Blk ((w.alloc (.cells #[.string tree, .slice A l.length c, .string who, .int .i64 stamp, .string text] 100)).alloc (.map #[] 0)) _ _ _ at hB1
  rw [← hw0] at hB1 hb1 hm0 ⊢
  rw [← hg] at hB1 hm0 ⊢
  have HG := Lib.hid hg
  clear hw0 hg hB hb0 hs0
  go_loopw [10] (fun i wr => CommitRel l tree A c who stamp text g (g + 1) w i wr) (fun i _ => l.length - (intOf i).toNat)
  case atStart => exact ⟨0, rfl, Nat.zero_le _, fun i hi => by omega, hB1, hm0, hb1⟩
  case round =>
    clear hB1 hb1 hm0
    obtain ⟨k, rfl, hk, hup, hB, hmap, hbel⟩ := hrel
    have hs := hbel.size
    have hgl := hB.lt
    have f1 : IntKind.i64.wrap ((k : Int) + 1) = (k : Int) + 1 := IntWalk.i64_in _ (by omega)
    by_cases h1 : k < l.length
    · have d1 : decide ((k : Int) < (l.length : Int)) = true := decide_eq_true (by omega)
      have d1' : (k : Int) < (l.length : Int) := by omega
      have hk0 : (0 : Int) ≤ (k : Int) := by omega
      have hlen1 : l.length ≤ 9223372036854775807 := by omega
      have hrw := hr.below hbel
      obtain ⟨bb, off, rfl, hbb, hcell⟩ := hrw.at_ (by omega)
      have q0 := hcell _ _ (pc_get h1)
      have g1 : l[k]? = some l[k] := List.getElem?_eq_getElem h1
      obtain ⟨p, hp⟩ : ∃ p, p = l[k] := ⟨_, rfl⟩
      rw [← hp] at q0 g1
      have hat := Lib.hid (par_at g1)
      have hps : p.size ≤ maxLen := hsz.out p (by rw [hp]; exact List.getElem_mem h1)
      have hkey := WideMaps.keyOf_string_mk Try.underlying9 hps
      have htk : Hid (l.take (k + 1) = l.take k ++ [p]) := by unfold Hid; rw [List.take_succ_eq_append_getElem h1, hp]
      clear hp g1 hcell
      obtain ⟨al1, w1, hup1, hm1, hput1, hg1⟩ := hmap.update str_keyed Try.underlying124 hkey (.int .i64 1)
      obtain ⟨al2, w2, hup2, hm2, hput2, hg2⟩ := hmap.update str_keyed Try.underlying124 hkey (.int .i64 2)
      cases hh : hasS (l.take k) p with
      | true =>
        have HF : Hid (r = false) := by unfold Hid; rw [HR.out, parsB_not h1 (by rw [hat.out, hh]; simp)]; simp
        have hlk : (Instr.lookup 124 (.map (some (g + 1))) (.string p) false).run Try.prog wr = .ok (.int .i64 1) wr := by
          rcases hmap.look str_keyed Try.underlying124 (int_zero wr) hkey false with ⟨h2, _⟩ | ⟨v, h2, h3⟩
          · exact absurd rfl (h2 _ (seen_some hh))
          · rw [seen_val h2] at h3; exact h3
        have hlk2 : (Instr.lookup 124 (.map (some (g + 1))) (.string p) false).run Try.prog w2 = .ok (.int .i64 2) w2 := by
          rcases hm2.look str_keyed Try.underlying124 (int_zero w2) hkey false with ⟨h2, _⟩ | ⟨v, h2, h3⟩
          · exact absurd rfl (h2 _ hput2.mem)
          · rw [key_one hm2.nodup h2 hput2.mem] at h3; exact h3
        have hb2 : Below w.heap.size w w2 := hbel.trans (below_of_grown hg2 (by have := HG.out; omega) hs)
        clear hup1 hm1 hput1 hg1 hh hm2 hput2 hg2
        go_wp2_with fail
        go_ret
        rw [HF.out]
        exact ⟨rfl, hb2⟩
      | false =>
        have hlk : (Instr.lookup 124 (.map (some (g + 1))) (.string p) false).run Try.prog wr = .ok (.int .i64 0) wr := by
          rcases hmap.look str_keyed Try.underlying124 (int_zero wr) hkey false with ⟨h2, h3⟩ | ⟨v, h2, h3⟩
          · exact h3
          · exact absurd rfl (seen_none hh _ h2)
        have hlk1 : (Instr.lookup 124 (.map (some (g + 1))) (.string p) false).run Try.prog w1 = .ok (.int .i64 1) w1 := by
          rcases hm1.look str_keyed Try.underlying124 (int_zero w1) hkey false with ⟨h2, _⟩ | ⟨v, h2, h3⟩
          · exact absurd rfl (h2 _ hput1.mem)
          · rw [key_one hm1.nodup h2 hput1.mem] at h3; exact h3
        have hb1 : Below w.heap.size w w1 := hbel.trans (below_of_grown hg1 (by have := HG.out; omega) hs)
        have hal : Hid (al1 = seenL (l.take (k + 1))) := by
          unfold Hid
          rcases hput1 with ⟨_, rfl⟩ | ⟨l1, r1, v0, e1, _⟩
          · rw [htk.out]; simp [seenL]
          · exact absurd rfl (seen_none hh (Value.string p, v0) (by rw [e1]; simp))
        have hB1 := hB.grown hg1 (by intro e; injection e; omega)
        cases hi : decide (p.size = 32) with
        | false =>
          have HI := Lib.hid hi
          have HF : Hid (r = false) := by unfold Hid; rw [HR.out, parsB_not h1 (by rw [hat.out, hi]; rfl)]; simp
          clear hup2 hm2 hput2 hg2 hh hput1 hi
          go_wp2_with (go_at_call 111; refine (isId_is p _ HI _).mono ?_; rintro e w' ⟨rfl, rfl⟩)
          go_ret
          rw [HF.out]
          exact ⟨rfl, hb1⟩
        | true =>
          have HI := Lib.hid hi
          have HU : Hid (parsUp l (k + 1)) := parsUp_succ hup.out (by rw [hat.out, hi, hh]; rfl)
          clear hup2 hm2 hput2 hg2 hh hput1 hi
          go_wp2_with (go_at_call 111; refine (isId_is p _ HI _).mono ?_; rintro e w' ⟨rfl, rfl⟩)
          exact ⟨⟨k + 1, by go_num, by omega, HU, hB1, by rw [← hal.out]; exact hm1, hb1⟩, by simp [intOf]; omega⟩
    · have d1 : decide ((k : Int) < (l.length : Int)) = false := decide_eq_false (by omega)
      have d1' : ¬ (k : Int) < (l.length : Int) := by omega
      have hkl : k = l.length := by omega
      have HE : Hid (r = (decide (tree.size = 32) && decide (l.length ≤ 4) && toldB who stamp text)) := by unfold Hid; rw [HR.out, parsB_of (by rw [← hkl]; exact hup.out)]
      have c0 : wr.cell? ⟨g, 0, none⟩ = some (.string tree) := by rw [hB.cell]; rfl
      have c1 : wr.cell? ⟨g, 1, none⟩ = some (.slice A l.length c) := by rw [hB.cell]; rfl
      have c2 : wr.cell? ⟨g, 2, none⟩ = some (.string who) := by rw [hB.cell]; rfl
      have c3 : wr.cell? ⟨g, 3, none⟩ = some (.int .i64 stamp) := by rw [hB.cell]; rfl
      have c4 : wr.cell? ⟨g, 4, none⟩ = some (.string text) := by rw [hB.cell]; rfl
      clear hkl
      cases hi : decide (tree.size = 32) with
      | false =>
        have HI := Lib.hid hi
        have HF : Hid (r = false) := by unfold Hid; rw [HE.out, hi]; rfl
        clear hi
        go_wp2_with (go_at_call 111; refine (isId_is tree _ HI _).mono ?_; rintro e w' ⟨rfl, rfl⟩)
        go_ret
        rw [HF.out]
        exact ⟨rfl, hbel⟩
      | true =>
        have HI := Lib.hid hi
        by_cases h4 : l.length ≤ 4
        · have d4 : decide ((l.length : Int) ≤ 4) = true := decide_eq_true (by omega)
          have HF : Hid (r = toldB who stamp text) := by unfold Hid; rw [HE.out, hi]; simp [h4]
          clear hi h4
          go_wp2_with (first | (go_at_call 111; refine (isId_is tree _ HI _).mono ?_; rintro e w' ⟨rfl, rfl⟩) | (go_at_call 113; refine (toldRight_calls who stamp text _).mono ?_; rintro e w5 ⟨rfl, hb5⟩))
          go_ret
          rw [HF.out]
          exact ⟨rfl, hbel.trans (hb5.mono hs)⟩
        · have d4 : decide ((l.length : Int) ≤ 4) = false := decide_eq_false (by omega)
          have HF : Hid (r = false) := by unfold Hid; rw [HE.out]; simp [h4]
          clear hi h4
          go_wp2_with (go_at_call 111; refine (isId_is tree _ HI _).mono ?_; rintro e w' ⟨rfl, rfl⟩)
          go_ret
          rw [HF.out]
          exact ⟨rfl, hbel⟩
end Go.Proofs.Ytcefbhmmijmefaa
