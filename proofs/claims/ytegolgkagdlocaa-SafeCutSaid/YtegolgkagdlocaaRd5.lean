/- The walks of the document's 'disk', its fifth part: a disk out of files. Conditions: at most 3,518,437,208,883 files; names and bytes together below 2^47. -/
import Derived.Test.YtegolgkagdlocaaRefDisk
import Derived.Test.YtegolgkagdlocaaDisk12
namespace Go.Proofs.Ytegolgkagdlocaa
open Go.RowKit Go.Dol
set_option linter.unusedVariables false
theorem loadL_len {acc l m : List Fil} (h : loadL acc l = some m) : m.length ≤ acc.length + l.length := by
  induction l generalizing acc with
  | nil =>
    have : acc = m := by simpa [loadL] using h
    subst this
    simp
  | cons g q ih =>
    unfold loadL at h
    split at h
    · cases h
    · have h1 := ih h
      have h2 : (putF acc g.1 g.2).length ≤ acc.length + 1 := by
        have h3 := (put_perm acc g.1 g.2).length_eq
        have h4 : (dropF acc g.1).length ≤ acc.length := by
          cases hl : lookF acc g.1 with
          | none => rw [drop_none hl]; omega
          | some b => have := (drop_perm hl).length_eq; simp at this; omega
        rw [h3]
        simp
        exact h4
      simp only [List.length_cons]
      omega
def RLdRel (cap : Int) (fs : List FilA) (g : Nat) (w : World) (i : Value) (wr : World) : Prop :=
  ∃ (k : Nat) (l : List Fil), i = .int .i64 k ∧ k ≤ fs.length ∧ Hid (loadL [] ((fs.take k).map FilA.f) = some l) ∧ Rdk wr g (memD cap l) ∧ Below w.heap.size w wr
/-- What the document's Load hands back. -/
def RetRLoad (w : World) (r : Option Dk × Int) (e : Ending) (w' : World) : Prop :=
  match r.1 with
  | none => e = .returned (.tuple #[.pointer none, .int .i64 r.2]) ∧ Below w.heap.size w w'
  | some D => ∃ g, e = .returned (.tuple #[.pointer (some ⟨g, 0, none⟩), .int .i64 r.2]) ∧ Rdk w' g D ∧ w.heap.size ≤ g ∧ Below w.heap.size w w'

set_option maxRecDepth 100000 in
set_option maxHeartbeats 2000000 in
theorem refLoad_callsL (cap : Int) (A : Option Addr) (fs : List FilA) (n c : Nat) (hn : n = fs.length) (w : World) (hr : Rd w w.heap.size 2 A n (fc fs)) (hR : Fls8 w w.heap.size fs) (hnl : n ≤ 3518437208883) (hsm : ∀ x ∈ fs, x.n.size ≤ 140737488355328 ∧ x.b.length ≤ 140737488355328) :
    Calls Try.prog 37 #[.int .i64 cap, .slice A n c] w (RetRLoad w (loadD cap (fs.map FilA.f))) := by
  have HN := Lib.hid hn
  have hn1 : n ≤ fs.length := by omega
  have hn2 : fs.length ≤ n := by omega
  clear hn
  by_cases hc : cap < 0 ∨ 1099511627776 < cap
  · have HF : Hid (loadD cap (fs.map FilA.f) = (none, 1)) := if_pos hc
    go_enter Try.func37, Try.ntmps37
    go_wp2_with ((go_at_call 66; refine (refNewNo_calls cap _ hc).mono ?_; rintro e w1 ⟨rfl, hw1⟩; obtain rfl := hw1.symm))
    go_ret2
    rw [HF.out]
    exact ⟨rfl, Below.refl _ _⟩
  · have hc1 : 0 ≤ cap := by omega
    have hc2 : cap ≤ 1099511627776 := by omega
    have HF : Hid (loadD cap (fs.map FilA.f) = match loadL [] (fs.map FilA.f) with | none => (none, 1) | some m => if frD ⟨cap, m, 0, -1, false⟩ < 0 then (none, 4) else (some ⟨cap, m, 0, -1, false⟩, 0)) := if_neg hc
    go_enter Try.func37, Try.ntmps37
    go_wp2_with ((go_at_call 66; refine (refNew_calls cap _ hc1 hc2).mono ?_; rintro e w1 ⟨g, rfl, hD1, hg1, hb1⟩))
    obtain ⟨W0, hW0⟩ : ∃ W0, W0 = w1 := ⟨_, rfl⟩
    rw [← hW0] at hD1 hb1 ⊢
    clear hW0
    go_loopw [8] (fun i wr => RLdRel cap fs g w i wr) (fun i _ => fs.length - (intOf i).toNat)
    case atStart => exact ⟨0, [], rfl, Nat.zero_le _, rfl, hD1, hb1⟩
    case round =>
      clear hD1 hb1
      obtain ⟨k, l, rfl, hk, hl, hD, hb⟩ := hrel
      have hgl := hD.lt
      have hO : InOrder l := loadL_order hl.out List.Pairwise.nil
      have hll : l.length ≤ k := by
        have h1 := loadL_len hl.out
        simp only [List.length_nil, List.length_map, List.length_take] at h1
        omega
      by_cases hlt : k < n
      · have hd : decide ((k : Int) < (n : Int)) = true := decide_eq_true (by omega)
        have hd' : (k : Int) < (n : Int) := by omega
        have hk0 : (0 : Int) ≤ (k : Int) := by omega
        have hlt2 : k < fs.length := by omega
        obtain ⟨x, hx⟩ : ∃ x, fs[k]? = some x := ⟨fs[k], List.getElem?_eq_getElem hlt2⟩
        obtain ⟨x1, x2⟩ := fc_get hx
        have hxm := List.mem_of_getElem? hx
        have hrw := hr.belowW hb (Nat.le_refl _)
        obtain ⟨bb, off, rfl, hbb, hcell⟩ := hrw.at_ (by omega)
        have q0 : wr.cell? ⟨bb, off + k * 2, none⟩ = _ := hcell _ _ x1
        have q1 : wr.cell? ⟨bb, off + k * 2 + 1, none⟩ = _ := hcell _ _ x2
        have hxf := (hR x hxm).1.below hb
        have hxs := hsm x hxm
        have hnext : (fs.take (k + 1)).map FilA.f = (fs.take k).map FilA.f ++ [x.f] := by rw [List.take_add_one, hx]; simp
        have hall : fs.map FilA.f = (fs.take (k + 1)).map FilA.f ++ (fs.drop (k + 1)).map FilA.f := by rw [← List.map_append, List.take_append_drop]
        obtain ⟨xn, xb, xA, xc⟩ := x
        change (fs.take (k + 1)).map FilA.f = (fs.take k).map FilA.f ++ [(xn, xb)] at hnext
        have hsn : loadL [] ((fs.take k).map FilA.f ++ [(xn, xb)]) = if nameB xn = false ∨ (lookF l xn).isSome = true then none else some (putF l xn xb) := loadL_snoc hl.out (xn, xb)
        rw [← hnext] at hsn
        simp only at q0 q1 hxf hxs
        have hxn : xn.size ≤ 140737488355328 := by omega
        have hxb : xb.length ≤ 140737488355328 := by omega
        have HS := Lib.hid hsn
        have HA := Lib.hid hall
        have f2 : IntKind.i64.wrap ((k : Int) + 1) = (k : Int) + 1 := IntWalk.i64_in _ (by omega)
        clear hx x1 x2 hcell hrw hsn hall hnext hxm hr
        have hnm := refNamed_calls xn wr (by unfold maxLen; omega)
        have hHa := refHas_calls hD xn (by show l.length ≤ _; omega)
        change Calls _ _ _ _ (fun e w' => ∃ nq, e = .returned (.bool (lookF l xn).isSome) ∧ w' = wr.drewN nq) at hHa
        obtain ⟨is, his⟩ : ∃ is, is = (lookF l xn).isSome := ⟨_, rfl⟩
        rw [← his] at hHa
        cases hB : nameB xn with
        | false =>
          have HE : Hid (loadL [] (fs.map FilA.f) = none) := by
            unfold Hid
            rw [HA.out]
            refine loadL_none ?_
            rw [HS.out, if_pos (.inl hB)]
          rw [hB] at hnm
          have HNM := Lib.hid hnm
          clear hnm hB
          go_wp2_with fail
          refine HNM.out.mono ?_
          rintro e w3 ⟨rfl, hw3⟩
          obtain rfl := hw3.symm
          go_wp2_with fail
          go_ret2
          rw [HF.out, HE.out]
          exact ⟨rfl, hb⟩
        | true =>
          rw [hB] at hnm
          cases is with
          | true =>
            have HE : Hid (loadL [] (fs.map FilA.f) = none) := by
              unfold Hid
              rw [HA.out]
              refine loadL_none ?_
              rw [HS.out, if_pos (.inr his.symm)]
            have HNM := Lib.hid hnm
            have HHA := Lib.hid hHa
            clear hnm hHa hB his
            go_wp2_with fail
            refine HNM.out.mono ?_
            rintro e w3 ⟨rfl, hw3⟩
            obtain rfl := hw3.symm
            go_wp2_with fail
            refine HHA.out.mono ?_
            rintro e w3 ⟨nq, rfl, hw3⟩
            have hb3 : Below w.heap.size w w3 := by rw [hw3]; exact hb.drewN' nq
            clear hw3
            go_wp2_with fail
            go_ret2
            rw [HF.out, HE.out]
            exact ⟨rfl, hb3⟩
          | false =>
            have HE : Hid (loadL [] ((fs.take (k + 1)).map FilA.f) = some (putF l xn xb)) := by
              unfold Hid
              rw [HS.out, if_neg]
              rintro (h | h)
              · rw [hB] at h; cases h
              · rw [← his] at h; cases h
            have HNM := Lib.hid hnm
            have HHA := Lib.hid hHa
            clear hnm hHa hB his
            go_wp2_with fail
            refine HNM.out.mono ?_
            rintro e w3 ⟨rfl, hw3⟩
            obtain rfl := hw3.symm
            go_wp2_with fail
            refine HHA.out.mono ?_
            rintro e w3 ⟨nq, rfl, hw3⟩
            have hbq : Below wr.heap.size wr w3 := by rw [hw3]; exact (Below.refl _ _).drewN' nq
            have hD3 := hD.below hbq
            have hxf3 := hxf.below hbq
            have hb3 := hb.next hbq
            have p0 : w3.cell? ⟨bb, off + k * 2, none⟩ = some (.string xn) := by rw [hw3]; exact q0
            have p1 : w3.cell? ⟨bb, off + k * 2 + 1, none⟩ = some (.slice xA xb.length xc) := by rw [hw3]; exact q1
            have HPt := Lib.hid (put_calls hD3.drew xn _ xA xb xc (by show l.length + 1 ≤ _; omega) hxf3.1.drew hxb)
            clear hw3 q0 q1 hbq
            go_wp2_with fail
            go_still_tail 11, (by kernel_rfl)
            change wpList _ _ _ _ _ w3.drew
            go_wp2_with fail
            refine HPt.out.mono ?_
            rintro e w4 ⟨rfl, hD4, hg4⟩
            go_wp2_with fail
            have hg4' : w3.grownBy w4 (some g) := ⟨hg4.os, hg4.tape, hg4.output, hg4.size, hg4.block⟩
            exact ⟨⟨k + 1, putF l xn xb, by go_num, by omega, HE, hD4, hb3.grown hg4' hb3.size (fun j e => by injection e with e; omega)⟩, by simp [intOf]; omega⟩
      · have hd : decide ((k : Int) < (n : Int)) = false := decide_eq_false (by omega)
        have hdn : decide (k < n) = false := decide_eq_false hlt
        have hE : loadL [] (fs.map FilA.f) = some l := by
          have h1 := hl.out
          rw [List.take_of_length_le (by omega)] at h1
          exact h1
        have HFr := Lib.hid (refFree_callsL hD ⟨hc1, hc2⟩ (by show l.length ≤ _; omega))
        obtain ⟨fr, hfr⟩ : ∃ fr, fr = frD (memD cap l) := ⟨_, rfl⟩
        rw [← hfr] at HFr
        have HE := Lib.hid hE
        have HFR := Lib.hid hfr
        have HF2 : Hid (loadD cap (fs.map FilA.f) = if fr < 0 then (none, 4) else (some (memD cap l), 0)) := by
          unfold Hid
          rw [HF.out, HE.out, HFR.out]
          rfl
        clear hE hfr HF
        by_cases hneg : fr < 0
        · have d1 : decide (fr < 0) = true := decide_eq_true hneg
          have HF3 : Hid (loadD cap (fs.map FilA.f) = (none, 4)) := by unfold Hid; rw [HF2.out, if_pos hneg]
          clear hneg
          go_wp2_with fail
          refine HFr.out.mono ?_
          rintro e w3 ⟨rfl, hD3, hb3⟩
          go_wp2_with fail
          go_ret2
          rw [HF3.out]
          exact ⟨rfl, hb.next hb3⟩
        · have d1 : decide (fr < 0) = false := decide_eq_false hneg
          have HF3 : Hid (loadD cap (fs.map FilA.f) = (some (memD cap l), 0)) := by unfold Hid; rw [HF2.out, if_neg hneg]
          clear hneg
          go_wp2_with fail
          refine HFr.out.mono ?_
          rintro e w3 ⟨rfl, hD3, hb3⟩
          go_wp2_with fail
          go_ret2
          rw [HF3.out]
          exact ⟨g, rfl, hD3, hg1, hb.next hb3⟩
theorem refLoad_calls (cap : Int) (A : Option Addr) (fs : List FilA) (n c : Nat) (hn : n = fs.length) (w : World) (hr : Rd w w.heap.size 2 A n (fc fs)) (hR : Fls8 w w.heap.size fs) (hnl : n ≤ 3518437208883) (hsum : costs (fs.map FilA.f) ≤ 140737488355328) :
    Calls Try.prog 37 #[.int .i64 cap, .slice A n c] w (RetRLoad w (loadD cap (fs.map FilA.f))) := refLoad_callsL cap A fs n c hn w hr hR hnl (fls_small hsum).2
end Go.Proofs.Ytegolgkagdlocaa
