/- The walks of the document's 'object', its second part: entries, parents. Conditions: lengths below 2^47. -/
import Derived.Test.YtcefbhmmijmefaaObj18
import Derived.Test.YtcefbhmmijmefaaObj3
namespace Go.Proofs.Ytcefbhmmijmefaa
open Go.RowKit Go.Dol
set_option linter.unusedVariables false

theorem refPart_is (s : ByteArray) (b : Bool) (h : Hid (partB s = b)) (hs : s.size ≤ maxLen) (w : World) : Calls Try.prog 44 #[.string s] w fun e w' => e = .returned (.bool b) ∧ w' = w :=
  (refPart_calls s w hs).mono fun e w' ⟨h1, h2⟩ => ⟨by rw [h1, h.out], h2.symm⟩
def EntsRel (l : List Ent) (w : World) (i : Value) (wr : World) : Prop := ∃ k q : Nat, i = .int .i64 k ∧ k ≤ l.length ∧ Hid (entsUp geS l k) ∧ wr = w.drewN q

set_option maxRecDepth 100000 in
set_option maxHeartbeats 4000000 in
theorem refEntries_calls (A : Option Addr) (l : List Ent) (c B : Nat) (w : World) (hr : Rd w B 3 A l.length (ec l)) (hl : l.length ≤ 140737488355328) (hsz : Hid (∀ e ∈ l, e.name.size ≤ maxLen)) :
    Calls Try.prog 82 #[.slice A l.length c] w fun e w' => e = .returned (.bool (entsB geS l)) ∧ ∃ n, w' = w.drewN n := by
  obtain ⟨r, hre⟩ : ∃ r, r = entsB geS l := ⟨_, rfl⟩
  rw [← hre]
  have HR := Lib.hid hre
  clear hre
  go_enter Try.func82, Try.ntmps82
  go_wp2_with fail
  go_loopw [3] (fun i wr => EntsRel l w i wr) (fun i _ => l.length - (intOf i).toNat)
  case atStart => exact ⟨0, 0, rfl, Nat.zero_le _, fun i hi => by omega, rfl⟩
  case round =>
    obtain ⟨k, q, rfl, hk, hup, hwr⟩ := hrel
    have hrw : Rd wr B 3 A l.length (ec l) := by rw [hwr]; exact hr.drewN q
    have HW := Lib.hid hwr
    clear hwr
    have f1 : IntKind.i64.wrap ((k : Int) + 1) = (k : Int) + 1 := IntWalk.i64_in _ (by omega)
    by_cases h1 : k < l.length
    · have d1 : decide ((k : Int) < (l.length : Int)) = true := by simp; omega
      have d1' : (k : Int) < (l.length : Int) := by omega
      have hk0 : (0 : Int) ≤ (k : Int) := by omega
      have hlen1 : l.length ≤ 9223372036854775807 := by omega
      obtain ⟨bb, off, rfl, hbb, hcell⟩ := hrw.at_ (by omega)
      obtain ⟨p0, p1, p2⟩ := ec_get h1
      have q0 := hcell _ _ p0
      have q2 : wr.cell? ⟨bb, off + k * 3 + 2, none⟩ = _ := hcell _ _ p2
      have g1 : l[k]? = some l[k] := List.getElem?_eq_getElem h1
      have hns := Lib.hid (hsz.out l[k] (List.getElem_mem h1))
      obtain ⟨x, hx⟩ : ∃ x, x = l[k] := ⟨_, rfl⟩
      rw [← hx] at q0 q2 g1 hns
      have hat := Lib.hid (ent_at g1)
      obtain ⟨x0, x1, x2⟩ := x
      simp only at q0 q2 hat
      clear hx p0 p1 p2 g1
      cases hp : partB x0 with
      | false =>
        have HF : Hid (r = false) := by unfold Hid; rw [HR.out, entsB_not h1 (by rw [hat.out, hp]; rfl)]
        have HP := Lib.hid hp
        clear hp hcell
        go_wp2_with fail
        go_quiet ((go_at_call 44; exact Calls.quiet_of_same (refPart_is x0 _ HP hns.out _)))
        go_wp2_with fail
        go_ret
        rw [HF.out]
        exact ⟨rfl, q + nq, by rw [HW.out, World.drewN_drewN]⟩
      | true =>
        have HP := Lib.hid hp
        by_cases hi : x2.size = 32
        · have di : ((x2.size : Int) != 32) = false := by rw [hi]; rfl
          have HI := Lib.hid hi
          rcases Nat.eq_zero_or_pos k with hz | hz
          · have HU : Hid (entsUp geS l (k + 1)) := entsUp_succ hup.out (by rw [hat.out, hp, hz]; simp [hi, ordAt])
            have dz : decide ((0 : Int) < (k : Int)) = false := by simp; omega
            have dz' : ¬ (0 : Int) < (k : Int) := by omega
            have dzn : decide (0 < k) = false := by simp; omega
            have dzm : decide ((k : Int) > 0) = false := by simp; omega
            clear hp hi hz hcell
            go_wp2_with fail
            go_quiet ((go_at_call 44; exact Calls.quiet_of_same (refPart_is x0 _ HP hns.out _)))
            go_wp2_with fail
            exact ⟨⟨k + 1, q + nq, by go_num, by omega, HU, by rw [HW.out, World.drewN_drewN]⟩, by simp [intOf]; omega⟩
          · obtain ⟨j, rfl⟩ : ∃ j, k = j + 1 := ⟨k - 1, by omega⟩
            have hj : j < l.length := by omega
            obtain ⟨t0, _, _⟩ := ec_get hj
            have q3 := hcell _ _ t0
            have g1 : l[j]? = some l[j] := List.getElem?_eq_getElem hj
            obtain ⟨y, hy⟩ : ∃ y, y = l[j] := ⟨_, rfl⟩
            rw [← hy] at q3 g1
            have hord := Lib.hid (ord_succ (nm := x0) g1)
            obtain ⟨y0, y1, y2⟩ := y
            simp only at q3 hord
            have dz : decide ((0 : Int) < ((j + 1 : Nat) : Int)) = true := decide_eq_true (by omega)
            have dz' : (0 : Int) < ((j + 1 : Nat) : Int) := by omega
            have fj : IntKind.i64.wrap (((j + 1 : Nat) : Int) - 1) = (j : Int) := (IntWalk.i64_in _ (by omega)).trans (by omega)
            have fj2 : IntKind.i64.wrap ((j : Int) + 1 - 1) = (j : Int) := (IntWalk.i64_in _ (by omega)).trans (by omega)
            have fj3 : (j : Int) < (l.length : Int) := by omega
            have fj4 : (0 : Int) ≤ (j : Int) := by omega
            cases hge : Op.bytesLess y0.toList x0.toList with
            | false =>
              have HF : Hid (r = false) := by
                unfold Hid
                rw [HR.out, entsB_not h1 (by rw [hat.out, hord.out]; unfold geS; rw [hge]; simp)]
              clear hp hi hy g1 t0 hcell
              go_wp2_with fail
              go_quiet ((go_at_call 44; exact Calls.quiet_of_same (refPart_is x0 _ HP hns.out _)))
              go_wp2_with fail
              go_ret
              rw [HF.out]
              exact ⟨rfl, q + nq, by rw [HW.out, World.drewN_drewN]⟩
            | true =>
              have HU : Hid (entsUp geS l (j + 1 + 1)) := entsUp_succ hup.out (by rw [hat.out, hord.out, hp]; unfold geS; rw [hge]; simp [hi])
              clear hp hi hy g1 t0 hcell
              go_wp2_with fail
              go_quiet ((go_at_call 44; exact Calls.quiet_of_same (refPart_is x0 _ HP hns.out _)))
              go_wp2_with fail
              exact ⟨⟨j + 1 + 1, q + nq, by go_num, by omega, HU, by rw [HW.out, World.drewN_drewN]⟩, by simp [intOf]; omega⟩
        · have di : ((x2.size : Int) != 32) = true := bne_iff_ne.2 (by omega)
          have HF : Hid (r = false) := by unfold Hid; rw [HR.out, entsB_not h1 (by rw [hat.out, decide_eq_false hi]; simp)]
          clear hp hi hcell
          go_wp2_with fail
          go_quiet ((go_at_call 44; exact Calls.quiet_of_same (refPart_is x0 _ HP hns.out _)))
          go_wp2_with fail
          go_ret
          rw [HF.out]
          exact ⟨rfl, q + nq, by rw [HW.out, World.drewN_drewN]⟩
    · have d1 : decide ((k : Int) < (l.length : Int)) = false := by simp; omega
      have d1' : ¬ (k : Int) < (l.length : Int) := by omega
      have hkl : k = l.length := by omega
      have HE : Hid (r = decide (l.length ≤ 4096)) := by unfold Hid; rw [HR.out, entsB_of (by rw [← hkl]; exact hup.out)]
      by_cases h2 : l.length ≤ 4096
      · have d2 : decide ((l.length : Int) ≤ 4096) = true := by simp; omega
        have HT : Hid (r = true) := by unfold Hid; rw [HE.out, decide_eq_true h2]
        clear hkl h2
        go_wp2_with fail
        go_ret
        rw [HT.out]
        exact ⟨rfl, q, HW.out⟩
      · have d2 : decide ((l.length : Int) ≤ 4096) = false := by simp; omega
        have HT : Hid (r = false) := by unfold Hid; rw [HE.out, decide_eq_false h2]
        clear hkl h2
        go_wp2_with fail
        go_ret
        rw [HT.out]
        exact ⟨rfl, q, HW.out⟩

/-- Among those behind one another up to j none is p. -/
def NoneUp (l : List ByteArray) (p : ByteArray) (j : Nat) : Prop := ∀ i, i < j → ∀ q, l[i]? = some q → ¬ q = p
theorem has_not {l : List ByteArray} {p : ByteArray} {k : Nat} (h : NoneUp l p k) : hasS (l.take k) p = false := by
  unfold hasS
  rw [List.any_eq_false]
  intro q hq
  obtain ⟨i, hi, e⟩ := List.getElem_of_mem hq
  have hik : i < k := by rw [List.length_take] at hi; omega
  rw [List.getElem_take] at e
  have h1 := h i hik q (by rw [← e]; exact List.getElem?_eq_getElem _)
  intro h2
  exact h1 (str_inj (by simpa using h2))
theorem has_it {l : List ByteArray} {p : ByteArray} {k j : Nat} (hj : j < k) (h : l[j]? = some p) : hasS (l.take k) p = true := by
  unfold hasS
  rw [List.any_eq_true]
  refine ⟨p, ?_, by simp⟩
  rw [List.mem_iff_getElem?]
  exact ⟨j, by rw [List.getElem?_take, if_pos hj]; exact h⟩
def ParsRel (l : List ByteArray) (w : World) (i : Value) (wr : World) : Prop := ∃ k q : Nat, i = .int .i64 k ∧ k ≤ l.length ∧ Hid (parsUp l k) ∧ wr = w.drewN q
def ParsIn (l : List ByteArray) (k : Nat) (p : ByteArray) (w : World) (i : Value) (wr : World) : Prop := ∃ j q : Nat, i = .int .i64 j ∧ j ≤ k ∧ Hid (NoneUp l p j) ∧ wr = w.drewN q

set_option maxRecDepth 100000 in
set_option maxHeartbeats 4000000 in
theorem refParents_calls (A : Option Addr) (l : List ByteArray) (c B : Nat) (w : World) (hr : Rd w B 1 A l.length (pc l)) (hl : l.length ≤ 140737488355328) :
    Calls Try.prog 83 #[.slice A l.length c] w fun e w' => e = .returned (.bool (parsB l)) ∧ ∃ n, w' = w.drewN n := by
  obtain ⟨r, hre⟩ : ∃ r, r = parsB l := ⟨_, rfl⟩
  rw [← hre]
  have HR := Lib.hid hre
  clear hre
  go_enter Try.func83, Try.ntmps83
  go_wp2_with fail
  go_loopw [3] (fun i wr => ParsRel l w i wr) (fun i _ => l.length - (intOf i).toNat)
  case atStart => exact ⟨0, 0, rfl, Nat.zero_le _, fun i hi => by omega, rfl⟩
  case round =>
    obtain ⟨k, q, rfl, hk, hup, hwr⟩ := hrel
    have hrw : Rd wr B 1 A l.length (pc l) := by rw [hwr]; exact hr.drewN q
    have HW := Lib.hid hwr
    clear hwr
    have f1 : IntKind.i64.wrap ((k : Int) + 1) = (k : Int) + 1 := IntWalk.i64_in _ (by omega)
    by_cases h1 : k < l.length
    · have d1 : decide ((k : Int) < (l.length : Int)) = true := by simp; omega
      have d1' : (k : Int) < (l.length : Int) := by omega
      have hk0 : (0 : Int) ≤ (k : Int) := by omega
      have hlen1 : l.length ≤ 9223372036854775807 := by omega
      obtain ⟨bb, off, rfl, hbb, hcell⟩ := hrw.at_ (by omega)
      have q0 := hcell _ _ (pc_get h1)
      have g1 : l[k]? = some l[k] := List.getElem?_eq_getElem h1
      obtain ⟨p, hp⟩ : ∃ p, p = l[k] := ⟨_, rfl⟩
      rw [← hp] at q0 g1
      have hat : Hid (parAt l k = (decide (p.size = 32) && !hasS (l.take k) p)) := by unfold Hid parAt; rw [g1]
      clear hp g1
      by_cases hi : p.size = 32
      · have di : ((p.size : Int) != 32) = false := by rw [hi]; rfl
        have HI := Lib.hid hi
        clear hi
        go_wp2_with fail
        obtain ⟨wo, hwo⟩ : ∃ wo, wo = wr := ⟨_, rfl⟩
        rw [← hwo] at HW hrw hcell q0 ⊢
        clear hwo
        go_loopw [4] (fun i wr => ParsIn l k p wo i wr) (fun i _ => k - (intOf i).toNat)
        case atStart => exact ⟨0, 0, rfl, Nat.zero_le _, fun i hi => by omega, rfl⟩
        case round =>
          obtain ⟨j, q2, rfl, hj, hno, hwr2⟩ := hrel
          have hcell2 : ∀ (j : Nat) (u : Value), (pc l)[j]? = some u → wr.cell? ⟨bb, off + j, none⟩ = some u := by rw [hwr2]; exact hcell
          have q1 : wr.cell? ⟨bb, off + k, none⟩ = some (.string p) := by rw [hwr2]; exact q0
          have HW2 := Lib.hid hwr2
          clear hwr2
          have f2 : IntKind.i64.wrap ((j : Int) + 1) = (j : Int) + 1 := IntWalk.i64_in _ (by omega)
          by_cases h2 : j < k
          · have e1 : decide ((j : Int) < (k : Int)) = true := decide_eq_true (by omega)
            have e1' : (j : Int) < (k : Int) := by omega
            have hj0 : (0 : Int) ≤ (j : Int) := by omega
            have hjl : j < l.length := by omega
            have e2' : (j : Int) < (l.length : Int) := by omega
            have q3 := hcell2 _ _ (pc_get hjl)
            have g2 : l[j]? = some l[j] := List.getElem?_eq_getElem hjl
            obtain ⟨y, hy⟩ : ∃ y, y = l[j] := ⟨_, rfl⟩
            rw [← hy] at q3 g2
            have G2 := Lib.hid g2
            clear hy g2 hcell2
            by_cases heq : y = p
            · have b1 : (y.toList == p.toList) = true := str_eq_b heq
              have HF : Hid (r = false) := by unfold Hid; rw [HR.out, parsB_not h1 (by rw [hat.out, has_it h2 (by rw [G2.out, heq])]; simp)]
              clear heq
              go_wp2_with fail
              go_quiet (fail)
              go_wp2_with fail
              go_ret
              rw [HF.out]
              exact ⟨rfl, _, by rw [HW2.out, HW.out, World.drewN_drewN, World.drewN_drewN]⟩
            · have b1 : (y.toList == p.toList) = false := str_ne_b heq
              have HN : Hid (NoneUp l p (j + 1)) := fun i hi q hq => by
                by_cases e : i = j
                · rw [e, G2.out] at hq
                  injection hq with hq
                  rw [← hq]
                  exact heq
                · exact hno.out i (by omega) q hq
              have HQ := Lib.hid heq
              clear heq
              go_wp2_with fail
              go_quiet (fail)
              go_wp2_with fail
              exact ⟨⟨j + 1, _, by go_num, h2, HN, by rw [HW2.out, World.drewN_drewN]⟩, by simp [intOf]; omega⟩
          · have e1 : decide ((j : Int) < (k : Int)) = false := decide_eq_false (by omega)
            have e1' : ¬ (j : Int) < (k : Int) := by omega
            have hjk : j = k := by omega
            have HU : Hid (parsUp l (k + 1)) := fun i hi' => by
              by_cases e : i = k
              · rw [e, hat.out, has_not (by rw [← hjk]; exact hno.out), decide_eq_true HI.out]
                rfl
              · exact hup.out i (by omega)
            clear hjk hcell2
            go_wp2_with fail
            exact ⟨⟨k + 1, _, by go_num, h1, HU, by rw [HW2.out, HW.out, World.drewN_drewN]⟩, by simp [intOf]; omega⟩
      · have di : ((p.size : Int) != 32) = true := bne_iff_ne.2 (by omega)
        have HF : Hid (r = false) := by unfold Hid; rw [HR.out, parsB_not h1 (by rw [hat.out, decide_eq_false hi]; rfl)]
        clear hi
        go_wp2_with fail
        go_ret
        rw [HF.out]
        exact ⟨rfl, q, HW.out⟩
    · have d1 : decide ((k : Int) < (l.length : Int)) = false := by simp; omega
      have d1' : ¬ (k : Int) < (l.length : Int) := by omega
      have hkl : k = l.length := by omega
      have HE : Hid (r = decide (l.length ≤ 4)) := by unfold Hid; rw [HR.out, parsB_of (by rw [← hkl]; exact hup.out)]
      by_cases h2 : l.length ≤ 4
      · have d2 : decide ((l.length : Int) ≤ 4) = true := by simp; omega
        have HT : Hid (r = true) := by unfold Hid; rw [HE.out, decide_eq_true h2]
        clear hkl h2
        go_wp2_with fail
        go_ret
        rw [HT.out]
        exact ⟨rfl, q, HW.out⟩
      · have d2 : decide ((l.length : Int) ≤ 4) = false := by simp; omega
        have HT : Hid (r = false) := by unfold Hid; rw [HE.out, decide_eq_false h2]
        clear hkl h2
        go_wp2_with fail
        go_ret
        rw [HT.out]
        exact ⟨rfl, q, HW.out⟩
end Go.Proofs.Ytcefbhmmijmefaa
