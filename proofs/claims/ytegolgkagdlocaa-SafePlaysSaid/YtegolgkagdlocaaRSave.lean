/- The document's save. Conditions: a disk in good order with room for one file more; bytes that lie below it or in a row of bytes. -/
import Derived.Test.YtegolgkagdlocaaRSwp
import Derived.Test.YtegolgkagdlocaaPiece
import Derived.Test.YtegolgkagdlocaaSafeB
namespace Go.Dol
open Go.RowKit
set_option linter.unusedVariables false
/-- A chunk that was laid: the file is there. -/
theorem app_there {D : Dk} (h : InOrder D.l) {s : ByteArray} {c : List UInt8} (hz : (appD D s c).1 = 0) : (lookF (appD D s c).2.l s).isSome = true ∧ (appD D s c).2.l = putF D.l s ((lookF D.l s).getD [] ++ c) := by
  unfold appD at hz ⊢
  split
  · rename_i h1
    rw [if_pos h1] at hz
    cases hz
  · rename_i h1
    rw [if_neg h1] at hz
    split
    · rename_i h2
      rw [if_pos h2] at hz
      cases hz
    · rename_i h2
      rw [if_neg h2] at hz
      unfold roomD at hz ⊢
      split
      · rename_i h3
        rw [if_pos h3] at hz
        cases hz
      · rename_i h3
        rw [if_neg h3] at hz
        unfold spendD at hz ⊢
        split
        · rename_i h4
          rw [if_pos h4] at hz
          cases hz
        · refine ⟨?_, rfl⟩
          show (lookF (putF D.l s _) s).isSome = true
          rw [look_put h, if_pos rfl]
          rfl
theorem OkG.preS {L B : Nat} {D : Dk} (h : OkG L B D) {s : ByteArray} {b : List UInt8} (hs : (lookF D.l s).isSome = false) (hl : D.l.length + 1 ≤ L) (hb : b.length ≤ B) {pre r : List (List UInt8)} (hc : chunksOf b = pre ++ r) : OkG L B (appAll D s pre).2 := by
  have h1 := chunks_len b
  rw [hc, List.flatten_append, List.length_append] at h1
  have hs' : lookF D.l s = none := by cases hx : lookF D.l s with | none => rfl | some c => rw [hx] at hs; cases hs
  exact h.all (s := s) pre (fun _ => hl) (by rw [hs', Option.getD_none, List.nil_append]; omega)
end Go.Dol
namespace Go.Proofs.Ytegolgkagdlocaa
open Go.RowKit Go.Dol
set_option linter.unusedVariables false
section
variable {w w' : World} {gr : Nat} {D : Dk}
set_option maxRecDepth 100000 in
set_option maxHeartbeats 800000 in
theorem refNeed_calls (n : ByteArray) (k : Int) (w : World) (hn : n.size ≤ 140737488355328) (hk0 : -4611686018427387904 ≤ k) (hk : k ≤ 4611686018427387904) :
    Calls Try.prog 33 #[.string n, .int .i64 k] w fun e w' => e = .returned (.int .i64 (16 + (n.size + 1) + max k 0)) ∧ w' = w := by
  have f1 : IntKind.i64.wrap (16 + (n.size : Int)) = 16 + (n.size : Int) := IntWalk.i64_in _ (by omega)
  have f2 : IntKind.i64.wrap (16 + (n.size : Int) + 1) = 16 + (n.size : Int) + 1 := IntWalk.i64_in _ (by omega)
  have f3 : IntKind.i64.wrap (16 + (n.size : Int) + 1 + max k 0) = 16 + ((n.size : Int) + 1) + max k 0 := by rw [IntWalk.i64_in _ (by omega)]; omega
  go_enter Try.func33, Try.ntmps33
  go_wp2_with fail
  go_ret
  exact ⟨rfl, rfl⟩
/-- How many files the document's disk has. -/
def filesOf (gr : Nat) (w : World) : Nat := lenV ((w.cell? ⟨gr, 1, none⟩).getD undef)
theorem Rdk.files (h : Rdk w gr D) : filesOf gr w = D.l.length := by
  obtain ⟨fs, A, c, k0, k1, k2, k3, k4, hr, hc, hcm, hF, hL⟩ := h.row
  unfold filesOf
  rw [k1, ← hL.out, List.length_map]
  rfl
/-- The rounds of the save: so many chunks are laid. -/
def RSvRel (D : Dk) (s : ByteArray) (b : List UInt8) (gr : Nat) (w : World) (i : Value) (wr : World) : Prop :=
  ∃ (at_ : Nat) (E : Dk) (pre : List (List UInt8)) (first : Bool), i = .int .i64 at_ ∧ at_ ≤ b.length ∧ Hid (appAll D s pre = (0, E)) ∧ Hid (chunksOf b = pre ++ restOf first (b.drop at_)) ∧ Hid ((lookF E.l s).isSome = !first) ∧ (first = true → at_ = 0) ∧ E.l.length ≤ D.l.length + 1 ∧ Hid (first = true → E.l.length = D.l.length) ∧ Rdk wr gr E ∧ w.grownBy wr (some gr)
/-- What is left to do, behind the question for room. -/
def laidS (D : Dk) (s n : ByteArray) (b : List UInt8) : Int × Dk := if (appAll D s (chunksOf b)).1 ≠ 0 then appAll D s (chunksOf b) else if (syncD (appAll D s (chunksOf b)).2 s).1 ≠ 0 then syncD (appAll D s (chunksOf b)).2 s else renD (syncD (appAll D s (chunksOf b)).2 s).2 s n
theorem laid_laidS (D : Dk) (n : ByteArray) (b : List UInt8) : laidD D n b = laidS D (shd n) n b := rfl
set_option maxRecDepth 100000 in
set_option maxHeartbeats 16000000 in
theorem refSave_calls (h : Rdk w gr D) (hK : OkW D) (n : ByteArray) (hn : n.size ≤ 140737488351232) (A : Option Addr) (b : List UInt8) (c : Nat) (hsl : D.l.length + 1 ≤ 3518437208880) (hbw : b.length ≤ 140737488355264) (B : Nat) (hfb : Far w B A b) (hcl : b.length ≤ c) (hcm : c ≤ maxLen) (hB : B ≤ gr) :
    Calls Try.prog 31 #[.pointer (some ⟨gr, 0, none⟩), .string n, .slice A b.length c] w (RetR w gr (saveD D n b)) := by
  obtain ⟨s, hs⟩ : ∃ s, n ++ (⟨#[126]⟩ : ByteArray) = s := ⟨_, rfl⟩
  have hsd : shd n = s := hs
  have hss : s.size = n.size + 1 := by rw [← hsd, shd_size]
  have hsm : s.size ≤ maxLen := by unfold maxLen; omega
  have hnm : n.size ≤ maxLen := by unfold maxLen; omega
  have hlen := hK.len
  have hO : Other w B (some gr) := by
    obtain ⟨fs0, A0, c0, hB0, _⟩ := id h
    exact Other.blk hB0 (by decide) hB
  have HSD := Lib.hid hsd
  obtain ⟨fs0, A0, c0, k0, k1, k2, k3, k4, _⟩ := h.row
  have HN := refNamed_calls s w hsm
  clear hsd hss
  cases hB1 : nameB s with
  | false =>
    have HF : Hid (saveD D n b = (1, D)) := if_pos (.inl (by rw [HSD.out]; exact hB1))
    rw [hB1] at HN
    have HN2 := Lib.hid HN
    clear HN hB1
    go_enter Try.func31, Try.ntmps31
    go_wp2_with ((go_at_call 54; (with_reducible refine HN2.out.mono ?_); rintro e z0 ⟨rfl, hz0⟩; obtain rfl := hz0.symm))
    go_ret
    rw [HF.out]
    exact ⟨rfl, h, World.grownBy.refl w _⟩
  | true =>
    rw [hB1] at HN
    have HN2 := Lib.hid HN
    have hS := shadow_calls n w hnm
    clear HN
    cases hT : endsT n with
    | true =>
      have HF : Hid (saveD D n b = (1, D)) := if_pos (.inr (.inr hT))
      rw [hT] at hS
      have HS := Lib.hid hS
      clear hS hT hB1
      go_enter Try.func31, Try.ntmps31
      go_wp2_with (first
        | (go_at_call 54; (with_reducible refine HN2.out.mono ?_); rintro e z0 ⟨rfl, hz0⟩; obtain rfl := hz0.symm)
        | (go_at_call 62; (with_reducible refine HS.out.mono ?_); rintro e z0 ⟨rfl, hz0⟩; obtain rfl := hz0.symm))
      go_ret
      rw [HF.out]
      exact ⟨rfl, h, World.grownBy.refl w _⟩
    | false =>
      rw [hT] at hS
      have HS := Lib.hid hS
      clear hS
      by_cases h0 : n.size = 0
      · have HF : Hid (saveD D n b = (1, D)) := if_pos (.inr (.inl h0))
        have hE := empty_is h0
        clear hT hB1 h0
        go_enter Try.func31, Try.ntmps31
        go_wp2_with (first
          | (go_at_call 54; (with_reducible refine HN2.out.mono ?_); rintro e z0 ⟨rfl, hz0⟩; obtain rfl := hz0.symm)
          | (go_at_call 62; (with_reducible refine HS.out.mono ?_); rintro e z0 ⟨rfl, hz0⟩; obtain rfl := hz0.symm))
        go_ret
        rw [HF.out]
        exact ⟨rfl, h, World.grownBy.refl w _⟩
      · have hE := empty_isnt h0
        have hno : ¬ (nameB (shd n) = false ∨ n.size = 0 ∨ endsT n = true) := by rw [HSD.out, hB1, hT]; simp [h0]
        have hF0 : saveD D n b = if D.dark = true then (5, D) else if (lookF D.l s).isSome = true then (if (remD D s).1 ≠ 0 then remD D s else tailD (remD D s).2 n b) else tailD D n b := by
          unfold saveD
          rw [if_neg hno, HSD.out]
        clear hno hT h0
        cases hd : D.dark with
        | true =>
          have HF : Hid (saveD D n b = (5, D)) := by unfold Hid; rw [hF0, if_pos hd]
          rw [hd] at k4
          clear hF0 hd hB1
          go_enter Try.func31, Try.ntmps31
          go_wp2_with (first
            | (go_at_call 54; (with_reducible refine HN2.out.mono ?_); rintro e z0 ⟨rfl, hz0⟩; obtain rfl := hz0.symm)
            | (go_at_call 62; (with_reducible refine HS.out.mono ?_); rintro e z0 ⟨rfl, hz0⟩; obtain rfl := hz0.symm))
          go_ret
          rw [HF.out]
          exact ⟨rfl, h, World.grownBy.refl w _⟩
        | false =>
          rw [hd] at k4
          rw [hd, if_neg (by decide)] at hF0
          have hHs := refHas_calls h s (by omega)
          clear hd
          cases his : (lookF D.l s).isSome with
          | false =>
            rw [his] at hHs
            rw [his, if_neg (by decide)] at hF0
            have HF := Lib.hid hF0
            have HHs := Lib.hid hHs
            clear hHs hF0 hB1
            go_enter Try.func31, Try.ntmps31
            go_wp2_with (first
              | (go_at_call 54; (with_reducible refine HN2.out.mono ?_); rintro e z0 ⟨rfl, hz0⟩; obtain rfl := hz0.symm)
              | (go_at_call 62; (with_reducible refine HS.out.mono ?_); rintro e z0 ⟨rfl, hz0⟩; obtain rfl := hz0.symm))
            refine HHs.out.mono ?_
            rintro e w2 ⟨nq, rfl, hw2⟩
            have hb2 : Below w.heap.size w w2 := by rw [hw2]; exact (Below.refl _ _).drewN' nq
            clear hw2
            have hR2 := h.below hb2
            have hg2 : w.grownBy w2 (some gr) := grown_of_below hb2 _
            obtain ⟨fr, hfr⟩ : ∃ fr, fr = frD D := ⟨_, rfl⟩
            have hFr := refFree_callsL hR2 ⟨hK.cap0, hK.cap1⟩ (by have := hK.len; omega)
            rw [← hfr] at hFr
            have HFr := Lib.hid hFr
            obtain ⟨nd, hnd⟩ : ∃ nd, nd = 16 + ((n.size : Int) + 1) + max (b.length : Int) 0 := ⟨_, rfl⟩
            have hnd2 : nd = 16 + ((n.size : Int) + 1) + (b.length : Int) := by rw [hnd]; omega
            have cN : ∀ W, Calls Try.prog 33 #[.string n, .int .i64 (b.length : Int)] W fun e w' => e = .returned (.int .i64 nd) ∧ w' = W := by rw [hnd]; exact fun W => refNeed_calls n _ W (by omega) (by omega) (by omega)
            have hTl : tailD D n b = if fr < nd then (4, D) else laidS D s n b := by unfold tailD; rw [laid_laidS, HSD.out, hfr, hnd2]
            clear hFr hnd hnd2 hfr
            by_cases hrm : fr < nd
            · have d1 : decide (fr < nd) = true := decide_eq_true hrm
              rw [if_pos hrm] at hTl
              have HTl := Lib.hid hTl
              clear hTl hrm
              go_wp2_with (first
                | (go_at_call 56; (with_reducible refine HFr.out.mono ?_); rintro e w4 ⟨rfl, hR4, hb4⟩)
                | (go_at_call 33; (with_reducible refine (cN _).mono ?_); rintro e z0 ⟨rfl, hz0⟩; obtain rfl := hz0.symm))
              go_ret
              rw [HF.out, HTl.out]
              exact ⟨rfl, hR4, grown_step hg2 (grown_of_below hb4 _)⟩
            · have d1 : decide (fr < nd) = false := decide_eq_false hrm
              rw [if_neg hrm] at hTl
              have HTl := Lib.hid hTl
              clear hTl hrm
              go_wp2_with (first
                | (go_at_call 56; (with_reducible refine HFr.out.mono ?_); rintro e w4 ⟨rfl, hR4, hb4⟩)
                | (go_at_call 33; (with_reducible refine (cN _).mono ?_); rintro e z0 ⟨rfl, hz0⟩; obtain rfl := hz0.symm))
              have hg4 := grown_step hg2 (grown_of_below hb4 (some gr))
              have hbl : b.length ≤ 140737488355264 := hbw
              go_loopw [9] (fun i wr => RSvRel D s b gr w i wr) (fun i wr => 2 * (b.length - (intOf i).toNat) + (D.l.length + 1 - filesOf gr wr))
              case atStart => exact ⟨0, D, [], true, rfl, Nat.zero_le _, rfl, rfl, his, fun _ => rfl, Nat.le_succ _, fun _ => rfl, hR4, hg4⟩
              case round =>
                clear hR4 hg4 hb4
                obtain ⟨a, E, pre, first, rfl, ha, happ, hch, hlk, hf0, hEl, hEl2, hE, hg⟩ := hrel
                have hKE : OkW E := by have h1 := hK.preS his hsl hbw hch.out; rw [happ.out] at h1; exact h1
                have hfw := hfb.keep hg hO
                have hHs := refHas_calls hE s (by have := hKE.len; omega)
                rw [hlk.out] at hHs
                have HHs := Lib.hid hHs
                have hfo := hE.files
                have hmes : ∀ {w9 : World} {E9 : Dk}, Rdk w9 gr E9 → filesOf gr w9 = E9.l.length := fun h => h.files
                clear hHs hf0
                have hway : a < b.length ∨ (¬ a < b.length ∧ first = true) ∨ (¬ a < b.length ∧ first = false) := by cases first <;> by_cases h9 : a < b.length <;> simp [h9]
                rcases hway with hat | ⟨hat, hfi⟩ | ⟨hat, hfi⟩
                · have d2 : decide ((a : Int) < (b.length : Int)) = true := decide_eq_true (by omega)
                  have d2n : decide (a < b.length) = true := decide_eq_true hat
                  have hnz : first = true ∨ 0 < (b.drop a).length := .inr (by rw [List.length_drop]; omega)
                  obtain ⟨r, hr⟩ : ∃ r : Nat, r = b.length - a := ⟨_, rfl⟩
                  obtain ⟨q, hq⟩ : ∃ q : Nat, q = min 64 r := ⟨_, rfl⟩
                  have g1 : IntKind.i64.wrap ((b.length : Int) - (a : Int)) = (r : Int) := by rw [IntWalk.i64_in _ (by omega)]; omega
                  have g2 : min (64 : Int) (r : Int) = (q : Int) := by omega
                  have g3 : IntKind.i64.wrap ((a : Int) + (q : Int)) = (a : Int) + (q : Int) := IntWalk.i64_in _ (by omega)
                  obtain ⟨mm, A2, c2, em, jm, jm2, hPc, _, hsg, _, hslc⟩ := sl_mid (lo := a) (hi := a + q) (a : Int) ((a : Int) + (q : Int)) rfl (by omega) hfw.1 (by omega) (by omega) hcl hcm
                  have hmm : mm = (b.drop a).take 64 := by
                    rw [em.out, show a + q - a = q by omega, hq]
                    by_cases h9 : r ≤ 64
                    · rw [Nat.min_eq_right h9, List.take_of_length_le (by rw [List.length_drop]; omega), List.take_of_length_le (by rw [List.length_drop]; omega)]
                    · rw [Nat.min_eq_left (by omega)]
                  have hdd : (b.drop a).drop 64 = b.drop (a + q) := by
                    rw [List.drop_drop]
                    by_cases h9 : r ≤ 64
                    · rw [List.drop_eq_nil_of_le (by omega), List.drop_eq_nil_of_le (by omega)]
                    · rw [show a + 64 = a + q by omega]
                  have hch2 : chunksOf b = (pre ++ [mm]) ++ restOf false (b.drop (a + q)) := by rw [hch.out, restOf_next hnz, ← hmm, hdd, List.append_assoc]; rfl
                  have hff : Far (wr) B A2 mm := Far.piece (k := a) hfw hPc (Nat.le_refl _) (by omega) hsg
                  have hml : mm.length ≤ 64 := by omega
                  have hsn := appAll_snoc (c := mm) (s := s) (D := D) (l := pre) (by rw [happ.out])
                  rw [happ.out] at hsn
                  obtain ⟨ec, E2, hap⟩ : ∃ ec E2, appD E s mm = (ec, E2) := ⟨_, _, rfl⟩
                  have hsn2 : appAll D s (pre ++ [mm]) = (ec, E2) := by rw [hsn]; exact hap
                  have hKE2 : OkW E2 := by have h1 := hK.preS his hsl hbw hch2; rw [hsn2] at h1; exact h1
                  have cA : Calls Try.prog 24 #[.pointer (some ⟨gr, 0, none⟩), .string s, .slice A2 mm.length c2] wr (RetR wr gr (ec, E2)) := by rw [← hap]; exact refAppend_calls hE hKE s hsm B A2 mm c2 hff hB
                  have hth : ec = 0 → (lookF E2.l s).isSome = true ∧ E2.l = putF E.l s ((lookF E.l s).getD [] ++ mm) := by
                    intro h9
                    have h10 := app_there (D := E) hKE.ord (s := s) (c := mm) (by rw [hap]; exact h9)
                    rw [hap] at h10
                    exact h10
                  have hqp : 0 < q := by omega
                  have HCH := Lib.hid hch2
                  have HSN := Lib.hid hsn2
                  have HTH := Lib.hid hth
                  have HAP := Lib.hid hap
                  have jm3 : a + q ≤ b.length := by omega
                  clear hmm hdd hch2 hsn hsn2 hth hap hnz hq hr em hPc hsg 
                  have HcA := Lib.hid cA
                  clear cA
                  go_wp2_with fail
                  refine HcA.out.mono ?_
                  rintro e w6 ⟨rfl, hE6, hg6⟩
                  have hg06 := grown_step hg hg6
                  by_cases he : ec = 0
                  · obtain ⟨t1, t2⟩ := HTH.out he
                    subst he
                    have T2 := Lib.hid t2
                    have T1 : Hid ((lookF E2.l s).isSome = !false) := t1
                    have hlen2 : E2.l.length = E.l.length + (match lookF E.l s with | none => 1 | some _ => 0) := by rw [T2.out]; exact put_len _ _ _
                    have hflag : (first = false → E2.l.length = E.l.length) ∧ (first = true → E2.l.length = E.l.length + 1) := by
                      have h9 := hlk.out
                      cases hx : lookF E.l s with
                      | none =>
                        rw [hx] at h9 hlen2
                        cases first with
                        | true => exact ⟨(fun h => by cases h), fun _ => hlen2⟩
                        | false => cases h9
                      | some y =>
                        rw [hx] at h9 hlen2
                        cases first with
                        | true => cases h9
                        | false => exact ⟨fun _ => hlen2, (fun h => by cases h)⟩
                    have hEl3 := hEl2.out
                    have hE2l : E2.l.length ≤ D.l.length + 1 := by
                      cases first with
                      | true => have := hEl3 (by simp); have := hflag.2 rfl; omega
                      | false => have := hflag.1 rfl; omega
                    have hm9 := hmes hE6
                    have hm8 := hfo
                    have hle9 : E.l.length ≤ E2.l.length := by
                      cases first with
                      | true => have := hflag.2 rfl; omega
                      | false => have := hflag.1 rfl; omega
                    have HM9 := Lib.hid hm9
                    have HM8 := Lib.hid hm8
                    clear t1 t2 hlen2 hflag hEl3 hm9 hm8
                    go_wp2_with fail
                    refine ⟨⟨a + q, E2, pre ++ [mm], false, by go_num, jm3, HSN.out, HCH.out, T1, (fun h => by cases h), hE2l, Lib.hid (fun h => by cases h), hE6, hg06⟩, ?_⟩
                    have h8 := HM8.out
                    have h9 := HM9.out
                    simp only [intOf]
                    omega
                  · have hz : (ec == 0) = false := beq_eq_false_iff_ne.2 he
                    have HL : Hid (laidS D s n b = (ec, E2)) := by
                      have h9 : appAll D s (chunksOf b) = (ec, E2) := by rw [HCH.out, appAll_stop (by rw [HSN.out]; exact he), HSN.out]
                      unfold Hid laidS
                      rw [h9, if_pos he]
                    clear he
                    go_wp2_with fail
                    go_ret
                    rw [HF.out, HTl.out, HL.out]
                    exact ⟨rfl, hE6, hg06⟩
                · have d2 : decide ((a : Int) < (b.length : Int)) = false := decide_eq_false (by omega)
                  have d2n : decide (a < b.length) = false := decide_eq_false hat
                  subst hfi
                  have hnz : true = true ∨ 0 < (b.drop a).length := .inl rfl
                  obtain ⟨r, hr⟩ : ∃ r : Nat, r = b.length - a := ⟨_, rfl⟩
                  obtain ⟨q, hq⟩ : ∃ q : Nat, q = min 64 r := ⟨_, rfl⟩
                  have g1 : IntKind.i64.wrap ((b.length : Int) - (a : Int)) = (r : Int) := by rw [IntWalk.i64_in _ (by omega)]; omega
                  have g2 : min (64 : Int) (r : Int) = (q : Int) := by omega
                  have g3 : IntKind.i64.wrap ((a : Int) + (q : Int)) = (a : Int) + (q : Int) := IntWalk.i64_in _ (by omega)
                  obtain ⟨mm, A2, c2, em, jm, jm2, hPc, _, hsg, _, hslc⟩ := sl_mid (lo := a) (hi := a + q) (a : Int) ((a : Int) + (q : Int)) rfl (by omega) hfw.1 (by omega) (by omega) hcl hcm
                  have hmm : mm = (b.drop a).take 64 := by
                    rw [em.out, show a + q - a = q by omega, hq]
                    by_cases h9 : r ≤ 64
                    · rw [Nat.min_eq_right h9, List.take_of_length_le (by rw [List.length_drop]; omega), List.take_of_length_le (by rw [List.length_drop]; omega)]
                    · rw [Nat.min_eq_left (by omega)]
                  have hdd : (b.drop a).drop 64 = b.drop (a + q) := by
                    rw [List.drop_drop]
                    by_cases h9 : r ≤ 64
                    · rw [List.drop_eq_nil_of_le (by omega), List.drop_eq_nil_of_le (by omega)]
                    · rw [show a + 64 = a + q by omega]
                  have hch2 : chunksOf b = (pre ++ [mm]) ++ restOf false (b.drop (a + q)) := by rw [hch.out, restOf_next hnz, ← hmm, hdd, List.append_assoc]; rfl
                  have hff : Far (wr) B A2 mm := Far.piece (k := a) hfw hPc (Nat.le_refl _) (by omega) hsg
                  have hml : mm.length ≤ 64 := by omega
                  have hsn := appAll_snoc (c := mm) (s := s) (D := D) (l := pre) (by rw [happ.out])
                  rw [happ.out] at hsn
                  obtain ⟨ec, E2, hap⟩ : ∃ ec E2, appD E s mm = (ec, E2) := ⟨_, _, rfl⟩
                  have hsn2 : appAll D s (pre ++ [mm]) = (ec, E2) := by rw [hsn]; exact hap
                  have hKE2 : OkW E2 := by have h1 := hK.preS his hsl hbw hch2; rw [hsn2] at h1; exact h1
                  have cA : ∀ j, Calls Try.prog 24 #[.pointer (some ⟨gr, 0, none⟩), .string s, .slice A2 mm.length c2] (wr.drewN j) (RetR (wr.drewN j) gr (ec, E2)) := by rw [← hap]; exact fun j => refAppend_calls (hE.drewN j) hKE s hsm B A2 mm c2 (hff.below ((Below.refl _ _).drewN' j)) hB
                  have hth : ec = 0 → (lookF E2.l s).isSome = true ∧ E2.l = putF E.l s ((lookF E.l s).getD [] ++ mm) := by
                    intro h9
                    have h10 := app_there (D := E) hKE.ord (s := s) (c := mm) (by rw [hap]; exact h9)
                    rw [hap] at h10
                    exact h10
                  have hqp : q = 0 := by omega
                  have HCH := Lib.hid hch2
                  have HSN := Lib.hid hsn2
                  have HTH := Lib.hid hth
                  have HAP := Lib.hid hap
                  have HQ := Lib.hid hqp
                  have jm3 : a + q ≤ b.length := by omega
                  clear hmm hdd hch2 hsn hsn2 hth hap hnz hq hr em hPc hsg hqp
                  go_wp2_with ((go_at_call 63; (with_reducible refine HHs.out.mono ?_); rintro e w5 ⟨nq, rfl, rfl⟩))
                  refine (cA _).mono ?_
                  rintro e w6 ⟨rfl, hE6, hg6⟩
                  have hg06 := grown_step (grown_step hg (grown_of_below ((Below.refl _ _).drewN' nq) (some gr))) hg6
                  by_cases he : ec = 0
                  · obtain ⟨t1, t2⟩ := HTH.out he
                    subst he
                    have T2 := Lib.hid t2
                    have T1 : Hid ((lookF E2.l s).isSome = !false) := t1
                    have hlen2 : E2.l.length = E.l.length + (match lookF E.l s with | none => 1 | some _ => 0) := by rw [T2.out]; exact put_len _ _ _
                    have hflag : E2.l.length = E.l.length + 1 := by
                      have h9 := hlk.out
                      cases hx : lookF E.l s with
                      | none => rw [hx] at hlen2; exact hlen2
                      | some y => rw [hx] at h9; cases h9
                    have hEl3 := hEl2.out
                    have hE2l : E2.l.length ≤ D.l.length + 1 := by
                      have := hEl3 (by simp)
                      omega
                    have hm9 := hmes hE6
                    have hm8 := hfo
                    have HM9 := Lib.hid hm9
                    have HM8 := Lib.hid hm8
                    have HFL := Lib.hid hflag
                    clear t1 t2 hlen2 hflag hEl3 hm9 hm8
                    go_wp2_with fail
                    refine ⟨⟨a + q, E2, pre ++ [mm], false, by go_num, jm3, HSN.out, HCH.out, T1, (fun h => by cases h), hE2l, Lib.hid (fun h => by cases h), hE6, hg06⟩, ?_⟩
                    have h8 := HM8.out
                    have h9 := HM9.out
                    have h7 := HFL.out
                    have h6 := HQ.out
                    simp only [intOf]
                    omega
                  · have hz : (ec == 0) = false := beq_eq_false_iff_ne.2 he
                    have HL : Hid (laidS D s n b = (ec, E2)) := by
                      have h9 : appAll D s (chunksOf b) = (ec, E2) := by rw [HCH.out, appAll_stop (by rw [HSN.out]; exact he), HSN.out]
                      unfold Hid laidS
                      rw [h9, if_pos he]
                    clear he
                    go_wp2_with fail
                    go_ret
                    rw [HF.out, HTl.out, HL.out]
                    exact ⟨rfl, hE6, hg06⟩
                · have d2 : decide ((a : Int) < (b.length : Int)) = false := decide_eq_false (by omega)
                  have d2n : decide (a < b.length) = false := decide_eq_false hat
                  subst hfi
                  have hall : appAll D s (chunksOf b) = (0, E) := by rw [hch.out, restOf_end (by rw [List.length_drop]; omega), List.append_nil]; exact happ.out
                  have hL : laidS D s n b = if (syncD E s).1 ≠ 0 then syncD E s else renD (syncD E s).2 s n := by unfold laidS; rw [hall, if_neg (by simp)]
                  have cS : ∀ j, Calls Try.prog 64 #[.pointer (some ⟨gr, 0, none⟩), .string s] (wr.drewN j) (RetR (wr.drewN j) gr (syncD E s)) := fun j => refSync_calls (hE.drewN j) hKE s hsm (by have := hKE.len; omega)
                  have hKS := hKE.sync s
                  obtain ⟨es, E3, hsy⟩ : ∃ es E3, syncD E s = (es, E3) := ⟨_, _, rfl⟩
                  rw [hsy] at cS hKS hL
                  simp only at hKS hL
                  have HL0 := Lib.hid hL
                  clear hall hsy hL
                  go_wp2_with ((go_at_call 63; (with_reducible refine HHs.out.mono ?_); rintro e w5 ⟨nq, rfl, rfl⟩))
                  refine (cS _).mono ?_
                  rintro e w6 ⟨rfl, hE6, hg6⟩
                  have hg06 := grown_step (grown_step hg (grown_of_below ((Below.refl _ _).drewN' nq) (some gr))) hg6
                  by_cases he : es = 0
                  · have HL : Hid (laidS D s n b = renD E3 s n) := by unfold Hid; rw [HL0.out, if_neg (by rw [he]; simp)]
                    subst he
                    have HRn := Lib.hid (refRename_calls hE6 hKS s n hsm hnm)
                    go_wp2_with fail
                    refine HRn.out.mono ?_
                    rintro e w7 ⟨rfl, hE7, hg7⟩
                    go_wp2_with fail
                    go_ret
                    rw [HF.out, HTl.out, HL.out]
                    exact ⟨rfl, hE7, grown_step hg06 hg7⟩
                  · have hz : (es == 0) = false := beq_eq_false_iff_ne.2 he
                    have HL : Hid (laidS D s n b = (es, E3)) := by unfold Hid; rw [HL0.out, if_pos he]
                    clear he
                    go_wp2_with fail
                    go_ret
                    rw [HF.out, HTl.out, HL.out]
                    exact ⟨rfl, hE6, hg06⟩
          | true =>
            rw [his] at hHs
            rw [his, if_pos rfl] at hF0
            have HHs := Lib.hid hHs
            have hKr := hK.rem s
            obtain ⟨er, D1, hrm1⟩ : ∃ er D1, remD D s = (er, D1) := ⟨_, _, rfl⟩
            have cRm : ∀ W, Rdk W gr D → Calls Try.prog 25 #[.pointer (some ⟨gr, 0, none⟩), .string s] W (RetR W gr (er, D1)) := by rw [← hrm1]; exact fun W h => refRemove_calls h hK s hsm (by omega)
            have hgone : er = 0 → (lookF D1.l s).isSome = false ∧ D1.l.length + 1 ≤ 3518437208880 := by
              intro h9
              obtain ⟨h10, h11⟩ := rem_gone hK.ord (n := s) (by rw [hrm1]; exact h9)
              rw [hrm1] at h10 h11
              refine ⟨by rw [h10]; rfl, ?_⟩
              rw [h11]
              have := drop_len D.l s
              omega
            rw [hrm1] at hF0 hKr
            simp only at hF0 hKr
            have HGN := Lib.hid hgone
            have HF0 := Lib.hid hF0
            clear hHs hF0 hB1 hgone hrm1
            go_enter Try.func31, Try.ntmps31
            go_wp2_with (first
              | (go_at_call 54; (with_reducible refine HN2.out.mono ?_); rintro e z0 ⟨rfl, hz0⟩; obtain rfl := hz0.symm)
              | (go_at_call 62; (with_reducible refine HS.out.mono ?_); rintro e z0 ⟨rfl, hz0⟩; obtain rfl := hz0.symm))
            refine HHs.out.mono ?_
            rintro e w2 ⟨nq, rfl, hw2⟩
            have hb2 : Below w.heap.size w w2 := by rw [hw2]; exact (Below.refl _ _).drewN' nq
            clear hw2
            have hR2 := h.below hb2
            have HRm := Lib.hid (cRm _ hR2)
            clear cRm
            go_wp2_with fail
            refine HRm.out.mono ?_
            rintro e w3 ⟨rfl, hR3, hg3⟩
            have hg03 := grown_step (grown_of_below hb2 (some gr)) hg3
            by_cases he0 : er = 0
            · obtain ⟨hl1, hsl1⟩ := HGN.out he0
              have HF : Hid (saveD D n b = tailD D1 n b) := by unfold Hid; rw [HF0.out, if_neg (by rw [he0]; simp)]
              subst he0
              go_wp2_with fail
              obtain ⟨fr, hfr⟩ : ∃ fr, fr = frD D1 := ⟨_, rfl⟩
              have hFr := refFree_callsL hR3 ⟨hKr.cap0, hKr.cap1⟩ (by have := hKr.len; omega)
              rw [← hfr] at hFr
              have HFr := Lib.hid hFr
              obtain ⟨nd, hnd⟩ : ∃ nd, nd = 16 + ((n.size : Int) + 1) + max (b.length : Int) 0 := ⟨_, rfl⟩
              have hnd2 : nd = 16 + ((n.size : Int) + 1) + (b.length : Int) := by rw [hnd]; omega
              have cN : ∀ W, Calls Try.prog 33 #[.string n, .int .i64 (b.length : Int)] W fun e w' => e = .returned (.int .i64 nd) ∧ w' = W := by rw [hnd]; exact fun W => refNeed_calls n _ W (by omega) (by omega) (by omega)
              have hTl : tailD D1 n b = if fr < nd then (4, D1) else laidS D1 s n b := by unfold tailD; rw [laid_laidS, HSD.out, hfr, hnd2]
              clear hFr hnd hnd2 hfr
              by_cases hrm : fr < nd
              · have d1 : decide (fr < nd) = true := decide_eq_true hrm
                rw [if_pos hrm] at hTl
                have HTl := Lib.hid hTl
                clear hTl hrm
                go_wp2_with (first
                  | (go_at_call 56; (with_reducible refine HFr.out.mono ?_); rintro e w4 ⟨rfl, hR4, hb4⟩)
                  | (go_at_call 33; (with_reducible refine (cN _).mono ?_); rintro e z0 ⟨rfl, hz0⟩; obtain rfl := hz0.symm))
                go_ret
                rw [HF.out, HTl.out]
                exact ⟨rfl, hR4, grown_step hg03 (grown_of_below hb4 _)⟩
              · have d1 : decide (fr < nd) = false := decide_eq_false hrm
                rw [if_neg hrm] at hTl
                have HTl := Lib.hid hTl
                clear hTl hrm
                go_wp2_with (first
                  | (go_at_call 56; (with_reducible refine HFr.out.mono ?_); rintro e w4 ⟨rfl, hR4, hb4⟩)
                  | (go_at_call 33; (with_reducible refine (cN _).mono ?_); rintro e z0 ⟨rfl, hz0⟩; obtain rfl := hz0.symm))
                have hg4 := grown_step hg03 (grown_of_below hb4 (some gr))
                have hbl : b.length ≤ 140737488355264 := hbw
                go_loopw [9] (fun i wr => RSvRel D1 s b gr w i wr) (fun i wr => 2 * (b.length - (intOf i).toNat) + (D1.l.length + 1 - filesOf gr wr))
                case atStart => exact ⟨0, D1, [], true, rfl, Nat.zero_le _, rfl, rfl, hl1, fun _ => rfl, Nat.le_succ _, fun _ => rfl, hR4, hg4⟩
                case round =>
                  clear hR4 hg4 hb4
                  obtain ⟨a, E, pre, first, rfl, ha, happ, hch, hlk, hf0, hEl, hEl2, hE, hg⟩ := hrel
                  have hKE : OkW E := by have h1 := hKr.preS hl1 hsl1 hbw hch.out; rw [happ.out] at h1; exact h1
                  have hfw := hfb.keep hg hO
                  have hHs := refHas_calls hE s (by have := hKE.len; omega)
                  rw [hlk.out] at hHs
                  have HHs := Lib.hid hHs
                  have hfo := hE.files
                  have hmes : ∀ {w9 : World} {E9 : Dk}, Rdk w9 gr E9 → filesOf gr w9 = E9.l.length := fun h => h.files
                  clear hHs hf0
                  have hway : a < b.length ∨ (¬ a < b.length ∧ first = true) ∨ (¬ a < b.length ∧ first = false) := by cases first <;> by_cases h9 : a < b.length <;> simp [h9]
                  rcases hway with hat | ⟨hat, hfi⟩ | ⟨hat, hfi⟩
                  · have d2 : decide ((a : Int) < (b.length : Int)) = true := decide_eq_true (by omega)
                    have d2n : decide (a < b.length) = true := decide_eq_true hat
                    have hnz : first = true ∨ 0 < (b.drop a).length := .inr (by rw [List.length_drop]; omega)
                    obtain ⟨r, hr⟩ : ∃ r : Nat, r = b.length - a := ⟨_, rfl⟩
                    obtain ⟨q, hq⟩ : ∃ q : Nat, q = min 64 r := ⟨_, rfl⟩
                    have g1 : IntKind.i64.wrap ((b.length : Int) - (a : Int)) = (r : Int) := by rw [IntWalk.i64_in _ (by omega)]; omega
                    have g2 : min (64 : Int) (r : Int) = (q : Int) := by omega
                    have g3 : IntKind.i64.wrap ((a : Int) + (q : Int)) = (a : Int) + (q : Int) := IntWalk.i64_in _ (by omega)
                    obtain ⟨mm, A2, c2, em, jm, jm2, hPc, _, hsg, _, hslc⟩ := sl_mid (lo := a) (hi := a + q) (a : Int) ((a : Int) + (q : Int)) rfl (by omega) hfw.1 (by omega) (by omega) hcl hcm
                    have hmm : mm = (b.drop a).take 64 := by
                      rw [em.out, show a + q - a = q by omega, hq]
                      by_cases h9 : r ≤ 64
                      · rw [Nat.min_eq_right h9, List.take_of_length_le (by rw [List.length_drop]; omega), List.take_of_length_le (by rw [List.length_drop]; omega)]
                      · rw [Nat.min_eq_left (by omega)]
                    have hdd : (b.drop a).drop 64 = b.drop (a + q) := by
                      rw [List.drop_drop]
                      by_cases h9 : r ≤ 64
                      · rw [List.drop_eq_nil_of_le (by omega), List.drop_eq_nil_of_le (by omega)]
                      · rw [show a + 64 = a + q by omega]
                    have hch2 : chunksOf b = (pre ++ [mm]) ++ restOf false (b.drop (a + q)) := by rw [hch.out, restOf_next hnz, ← hmm, hdd, List.append_assoc]; rfl
                    have hff : Far (wr) B A2 mm := Far.piece (k := a) hfw hPc (Nat.le_refl _) (by omega) hsg
                    have hml : mm.length ≤ 64 := by omega
                    have hsn := appAll_snoc (c := mm) (s := s) (D := D1) (l := pre) (by rw [happ.out])
                    rw [happ.out] at hsn
                    obtain ⟨ec, E2, hap⟩ : ∃ ec E2, appD E s mm = (ec, E2) := ⟨_, _, rfl⟩
                    have hsn2 : appAll D1 s (pre ++ [mm]) = (ec, E2) := by rw [hsn]; exact hap
                    have hKE2 : OkW E2 := by have h1 := hKr.preS hl1 hsl1 hbw hch2; rw [hsn2] at h1; exact h1
                    have cA : Calls Try.prog 24 #[.pointer (some ⟨gr, 0, none⟩), .string s, .slice A2 mm.length c2] wr (RetR wr gr (ec, E2)) := by rw [← hap]; exact refAppend_calls hE hKE s hsm B A2 mm c2 hff hB
                    have hth : ec = 0 → (lookF E2.l s).isSome = true ∧ E2.l = putF E.l s ((lookF E.l s).getD [] ++ mm) := by
                      intro h9
                      have h10 := app_there (D := E) hKE.ord (s := s) (c := mm) (by rw [hap]; exact h9)
                      rw [hap] at h10
                      exact h10
                    have hqp : 0 < q := by omega
                    have HCH := Lib.hid hch2
                    have HSN := Lib.hid hsn2
                    have HTH := Lib.hid hth
                    have HAP := Lib.hid hap
                    have jm3 : a + q ≤ b.length := by omega
                    clear hmm hdd hch2 hsn hsn2 hth hap hnz hq hr em hPc hsg 
                    have HcA := Lib.hid cA
                    clear cA
                    go_wp2_with fail
                    refine HcA.out.mono ?_
                    rintro e w6 ⟨rfl, hE6, hg6⟩
                    have hg06 := grown_step hg hg6
                    by_cases he : ec = 0
                    · obtain ⟨t1, t2⟩ := HTH.out he
                      subst he
                      have T2 := Lib.hid t2
                      have T1 : Hid ((lookF E2.l s).isSome = !false) := t1
                      have hlen2 : E2.l.length = E.l.length + (match lookF E.l s with | none => 1 | some _ => 0) := by rw [T2.out]; exact put_len _ _ _
                      have hflag : (first = false → E2.l.length = E.l.length) ∧ (first = true → E2.l.length = E.l.length + 1) := by
                        have h9 := hlk.out
                        cases hx : lookF E.l s with
                        | none =>
                          rw [hx] at h9 hlen2
                          cases first with
                          | true => exact ⟨(fun h => by cases h), fun _ => hlen2⟩
                          | false => cases h9
                        | some y =>
                          rw [hx] at h9 hlen2
                          cases first with
                          | true => cases h9
                          | false => exact ⟨fun _ => hlen2, (fun h => by cases h)⟩
                      have hEl3 := hEl2.out
                      have hE2l : E2.l.length ≤ D1.l.length + 1 := by
                        cases first with
                        | true => have := hEl3 (by simp); have := hflag.2 rfl; omega
                        | false => have := hflag.1 rfl; omega
                      have hm9 := hmes hE6
                      have hm8 := hfo
                      have hle9 : E.l.length ≤ E2.l.length := by
                        cases first with
                        | true => have := hflag.2 rfl; omega
                        | false => have := hflag.1 rfl; omega
                      have HM9 := Lib.hid hm9
                      have HM8 := Lib.hid hm8
                      clear t1 t2 hlen2 hflag hEl3 hm9 hm8
                      go_wp2_with fail
                      refine ⟨⟨a + q, E2, pre ++ [mm], false, by go_num, jm3, HSN.out, HCH.out, T1, (fun h => by cases h), hE2l, Lib.hid (fun h => by cases h), hE6, hg06⟩, ?_⟩
                      have h8 := HM8.out
                      have h9 := HM9.out
                      simp only [intOf]
                      omega
                    · have hz : (ec == 0) = false := beq_eq_false_iff_ne.2 he
                      have HL : Hid (laidS D1 s n b = (ec, E2)) := by
                        have h9 : appAll D1 s (chunksOf b) = (ec, E2) := by rw [HCH.out, appAll_stop (by rw [HSN.out]; exact he), HSN.out]
                        unfold Hid laidS
                        rw [h9, if_pos he]
                      clear he
                      go_wp2_with fail
                      go_ret
                      rw [HF.out, HTl.out, HL.out]
                      exact ⟨rfl, hE6, hg06⟩
                  · have d2 : decide ((a : Int) < (b.length : Int)) = false := decide_eq_false (by omega)
                    have d2n : decide (a < b.length) = false := decide_eq_false hat
                    subst hfi
                    have hnz : true = true ∨ 0 < (b.drop a).length := .inl rfl
                    obtain ⟨r, hr⟩ : ∃ r : Nat, r = b.length - a := ⟨_, rfl⟩
                    obtain ⟨q, hq⟩ : ∃ q : Nat, q = min 64 r := ⟨_, rfl⟩
                    have g1 : IntKind.i64.wrap ((b.length : Int) - (a : Int)) = (r : Int) := by rw [IntWalk.i64_in _ (by omega)]; omega
                    have g2 : min (64 : Int) (r : Int) = (q : Int) := by omega
                    have g3 : IntKind.i64.wrap ((a : Int) + (q : Int)) = (a : Int) + (q : Int) := IntWalk.i64_in _ (by omega)
                    obtain ⟨mm, A2, c2, em, jm, jm2, hPc, _, hsg, _, hslc⟩ := sl_mid (lo := a) (hi := a + q) (a : Int) ((a : Int) + (q : Int)) rfl (by omega) hfw.1 (by omega) (by omega) hcl hcm
                    have hmm : mm = (b.drop a).take 64 := by
                      rw [em.out, show a + q - a = q by omega, hq]
                      by_cases h9 : r ≤ 64
                      · rw [Nat.min_eq_right h9, List.take_of_length_le (by rw [List.length_drop]; omega), List.take_of_length_le (by rw [List.length_drop]; omega)]
                      · rw [Nat.min_eq_left (by omega)]
                    have hdd : (b.drop a).drop 64 = b.drop (a + q) := by
                      rw [List.drop_drop]
                      by_cases h9 : r ≤ 64
                      · rw [List.drop_eq_nil_of_le (by omega), List.drop_eq_nil_of_le (by omega)]
                      · rw [show a + 64 = a + q by omega]
                    have hch2 : chunksOf b = (pre ++ [mm]) ++ restOf false (b.drop (a + q)) := by rw [hch.out, restOf_next hnz, ← hmm, hdd, List.append_assoc]; rfl
                    have hff : Far (wr) B A2 mm := Far.piece (k := a) hfw hPc (Nat.le_refl _) (by omega) hsg
                    have hml : mm.length ≤ 64 := by omega
                    have hsn := appAll_snoc (c := mm) (s := s) (D := D1) (l := pre) (by rw [happ.out])
                    rw [happ.out] at hsn
                    obtain ⟨ec, E2, hap⟩ : ∃ ec E2, appD E s mm = (ec, E2) := ⟨_, _, rfl⟩
                    have hsn2 : appAll D1 s (pre ++ [mm]) = (ec, E2) := by rw [hsn]; exact hap
                    have hKE2 : OkW E2 := by have h1 := hKr.preS hl1 hsl1 hbw hch2; rw [hsn2] at h1; exact h1
                    have cA : ∀ j, Calls Try.prog 24 #[.pointer (some ⟨gr, 0, none⟩), .string s, .slice A2 mm.length c2] (wr.drewN j) (RetR (wr.drewN j) gr (ec, E2)) := by rw [← hap]; exact fun j => refAppend_calls (hE.drewN j) hKE s hsm B A2 mm c2 (hff.below ((Below.refl _ _).drewN' j)) hB
                    have hth : ec = 0 → (lookF E2.l s).isSome = true ∧ E2.l = putF E.l s ((lookF E.l s).getD [] ++ mm) := by
                      intro h9
                      have h10 := app_there (D := E) hKE.ord (s := s) (c := mm) (by rw [hap]; exact h9)
                      rw [hap] at h10
                      exact h10
                    have hqp : q = 0 := by omega
                    have HCH := Lib.hid hch2
                    have HSN := Lib.hid hsn2
                    have HTH := Lib.hid hth
                    have HAP := Lib.hid hap
                    have HQ := Lib.hid hqp
                    have jm3 : a + q ≤ b.length := by omega
                    clear hmm hdd hch2 hsn hsn2 hth hap hnz hq hr em hPc hsg hqp
                    go_wp2_with ((go_at_call 63; (with_reducible refine HHs.out.mono ?_); rintro e w5 ⟨nq, rfl, rfl⟩))
                    refine (cA _).mono ?_
                    rintro e w6 ⟨rfl, hE6, hg6⟩
                    have hg06 := grown_step (grown_step hg (grown_of_below ((Below.refl _ _).drewN' nq) (some gr))) hg6
                    by_cases he : ec = 0
                    · obtain ⟨t1, t2⟩ := HTH.out he
                      subst he
                      have T2 := Lib.hid t2
                      have T1 : Hid ((lookF E2.l s).isSome = !false) := t1
                      have hlen2 : E2.l.length = E.l.length + (match lookF E.l s with | none => 1 | some _ => 0) := by rw [T2.out]; exact put_len _ _ _
                      have hflag : E2.l.length = E.l.length + 1 := by
                        have h9 := hlk.out
                        cases hx : lookF E.l s with
                        | none => rw [hx] at hlen2; exact hlen2
                        | some y => rw [hx] at h9; cases h9
                      have hEl3 := hEl2.out
                      have hE2l : E2.l.length ≤ D1.l.length + 1 := by
                        have := hEl3 (by simp)
                        omega
                      have hm9 := hmes hE6
                      have hm8 := hfo
                      have HM9 := Lib.hid hm9
                      have HM8 := Lib.hid hm8
                      have HFL := Lib.hid hflag
                      clear t1 t2 hlen2 hflag hEl3 hm9 hm8
                      go_wp2_with fail
                      refine ⟨⟨a + q, E2, pre ++ [mm], false, by go_num, jm3, HSN.out, HCH.out, T1, (fun h => by cases h), hE2l, Lib.hid (fun h => by cases h), hE6, hg06⟩, ?_⟩
                      have h8 := HM8.out
                      have h9 := HM9.out
                      have h7 := HFL.out
                      have h6 := HQ.out
                      simp only [intOf]
                      omega
                    · have hz : (ec == 0) = false := beq_eq_false_iff_ne.2 he
                      have HL : Hid (laidS D1 s n b = (ec, E2)) := by
                        have h9 : appAll D1 s (chunksOf b) = (ec, E2) := by rw [HCH.out, appAll_stop (by rw [HSN.out]; exact he), HSN.out]
                        unfold Hid laidS
                        rw [h9, if_pos he]
                      clear he
                      go_wp2_with fail
                      go_ret
                      rw [HF.out, HTl.out, HL.out]
                      exact ⟨rfl, hE6, hg06⟩
                  · have d2 : decide ((a : Int) < (b.length : Int)) = false := decide_eq_false (by omega)
                    have d2n : decide (a < b.length) = false := decide_eq_false hat
                    subst hfi
                    have hall : appAll D1 s (chunksOf b) = (0, E) := by rw [hch.out, restOf_end (by rw [List.length_drop]; omega), List.append_nil]; exact happ.out
                    have hL : laidS D1 s n b = if (syncD E s).1 ≠ 0 then syncD E s else renD (syncD E s).2 s n := by unfold laidS; rw [hall, if_neg (by simp)]
                    have cS : ∀ j, Calls Try.prog 64 #[.pointer (some ⟨gr, 0, none⟩), .string s] (wr.drewN j) (RetR (wr.drewN j) gr (syncD E s)) := fun j => refSync_calls (hE.drewN j) hKE s hsm (by have := hKE.len; omega)
                    have hKS := hKE.sync s
                    obtain ⟨es, E3, hsy⟩ : ∃ es E3, syncD E s = (es, E3) := ⟨_, _, rfl⟩
                    rw [hsy] at cS hKS hL
                    simp only at hKS hL
                    have HL0 := Lib.hid hL
                    clear hall hsy hL
                    go_wp2_with ((go_at_call 63; (with_reducible refine HHs.out.mono ?_); rintro e w5 ⟨nq, rfl, rfl⟩))
                    refine (cS _).mono ?_
                    rintro e w6 ⟨rfl, hE6, hg6⟩
                    have hg06 := grown_step (grown_step hg (grown_of_below ((Below.refl _ _).drewN' nq) (some gr))) hg6
                    by_cases he : es = 0
                    · have HL : Hid (laidS D1 s n b = renD E3 s n) := by unfold Hid; rw [HL0.out, if_neg (by rw [he]; simp)]
                      subst he
                      have HRn := Lib.hid (refRename_calls hE6 hKS s n hsm hnm)
                      go_wp2_with fail
                      refine HRn.out.mono ?_
                      rintro e w7 ⟨rfl, hE7, hg7⟩
                      go_wp2_with fail
                      go_ret
                      rw [HF.out, HTl.out, HL.out]
                      exact ⟨rfl, hE7, grown_step hg06 hg7⟩
                    · have hz : (es == 0) = false := beq_eq_false_iff_ne.2 he
                      have HL : Hid (laidS D1 s n b = (es, E3)) := by unfold Hid; rw [HL0.out, if_pos he]
                      clear he
                      go_wp2_with fail
                      go_ret
                      rw [HF.out, HTl.out, HL.out]
                      exact ⟨rfl, hE6, hg06⟩
            · have hz : (er == 0) = false := beq_eq_false_iff_ne.2 he0
              have HF : Hid (saveD D n b = (er, D1)) := by unfold Hid; rw [HF0.out, if_pos he0]
              clear he0
              go_wp2_with fail
              go_ret
              rw [HF.out]
              exact ⟨rfl, hR3, hg03⟩
end
end Go.Proofs.Ytegolgkagdlocaa
