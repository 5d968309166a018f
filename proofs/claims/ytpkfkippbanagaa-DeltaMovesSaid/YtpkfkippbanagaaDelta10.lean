/- The walks of the layer 'delta', its tenth part: Encode. Conditions: lengths below 2^20. -/
import Derived.Test.YtpkfkippbanagaaDelta9
import Derived.Deep.RegionWith
import Derived.Deep.DeepCutAuto
namespace Go.Proofs.Ytpkfkippbanagaa
open Go.RowKit Go.Dol
set_option linter.unusedVariables false

def RetT (w3 w : World) (l : List UInt8) (e : Ending) (w' : World) : Prop :=
  ∃ (l' : List UInt8) (A : Option Addr) (c : Nat), Hid (l' = l) ∧ e = .returned (.slice A l'.length c) ∧ Rd w' w'.heap.size 1 A l'.length (bc l') ∧ Below w3.heap.size w3 w' ∧ Below w.heap.size w w'
theorem turned_at (A : Option Addr) (l : List UInt8) (c : Nat) (w3 w : World) (hr : Rd w3 w3.heap.size 1 A l.length (bc l)) (hb : Below w3.heap.size w3 w) (hl : l.length ≤ 140737488355328) :
    Calls Try.prog 35 #[.slice A l.length c] w (RetT w3 w l.reverse) := by
  refine (turned_calls A l c w (hr.alive hb) hl).mono ?_
  rintro e w1 ⟨l1, A1, c1, e1, rfl, ho1, hb1, i1, i2⟩
  exact ⟨l1, A1, c1, e1, rfl, Rd.of_own ho1, hb.trans (hb1.mono hb.size), hb1⟩

set_option maxRecDepth 100000 in
set_option maxHeartbeats 4000000 in
theorem Encode_calls (A : Option Addr) (b : List UInt8) (c : Nat) (A2 : Option Addr) (t : List UInt8) (c2 : Nat) (w : World) (hr : Rd w w.heap.size 1 A b.length (bc b)) (hr2 : Rd w w.heap.size 1 A2 t.length (bc t))
    (hb : b.length ≤ 1048576) (ht : t.length ≤ 1048576) (hc : b.length ≤ c) (hcm : c ≤ maxLen) (hc2 : t.length ≤ c2) (hcm2 : c2 ≤ maxLen) :
    Calls Try.prog 27 #[.slice A b.length c, .slice A2 t.length c2] w (RetS w (encL b t)) := by
  have hcb : Hid (clampN (b.length : Int) = b.length) := clampN_of (by omega)
  have hct : Hid (clampN (t.length : Int) = t.length) := clampN_of (by omega)
  have hcost : Hid ((encL b t).length ≤ 1048595) := by unfold Hid; have := enc_cost (base := b) (target := t) hb ht; omega
  obtain ⟨T, hT⟩ : ∃ T, T = encL b t := ⟨_, rfl⟩
  rw [← hT] at hcost ⊢
  have HT := Lib.hid hT
  clear hT
  go_enter Try.func27, Try.ntmps27
  go_wp2_with fail
  refine (PutNum_calls none [] 0 _ w Rd.nil (by decide)).mono ?_
  rintro e w1 ⟨l1, A1, c1, e1, rfl, ho1, hb1, i1, i2⟩
  have hl1 : l1.length ≤ 9 := by
    rw [e1.out, hcb.out, List.nil_append]
    exact num_length_le 8 _ (by omega)
  go_wp2_with fail
  refine (PutNum_calls A1 l1 c1 _ w1 (Rd.of_own ho1) (by omega)).mono ?_
  rintro e w2 ⟨l2, A2', c2', e2, rfl, ho2, hb2, i3, i4⟩
  have hl2 : Hid (l2 = num b.length ++ num t.length) := by unfold Hid; rw [e2.out, e1.out, hcb.out, hct.out, List.nil_append]
  have hl2n : l2.length ≤ 18 := by rw [hl2.out, List.length_append]; have := num_length_le 8 b.length (by omega); have := num_length_le 8 t.length (by omega); omega
  have hb12 := hb1.next hb2
  have hro := Rd.of_own ho2
  clear e2 e1 hcb hct ho1 ho2 hb1 hb2
  go_wp2_with fail
  have hW : Wr (w2.alloc (.cells #[.slice A2' l2.length c2'] 46)) w.heap.size w2.heap.size l2 := ⟨A2', c2', Blk.new w2 _ [_], hro.alive ((Below.refl _ _).alloc (Nat.le_refl _) _), hb12.size, i3, i4⟩
  have hb3 : Below w.heap.size w (w2.alloc (.cells #[.slice A2' l2.length c2'] 46)) := hb12.alloc hb12.size _
  obtain ⟨g, hg⟩ : ∃ g, g = w2.heap.size := ⟨_, rfl⟩
  obtain ⟨w3, hw3⟩ : ∃ v, v = w2.alloc (.cells #[.slice A2' l2.length c2'] 46) := ⟨_, rfl⟩
  rw [← hg] at hW ⊢
  rw [← hw3] at hW hb3 ⊢
  clear hg hw3 hro hb12
  have hrx := hr.alive hb3
  have hrx2 := hr2.alive hb3
  refine (alike_calls A b c A2 t c2 w3 _ _ hrx hrx2 (by omega) (by omega)).mono ?_
  rintro e w4 ⟨rfl, q3, hw4⟩
  have hple := begins_le b t
  obtain ⟨p, hp⟩ : ∃ p, p = begins b t := ⟨_, rfl⟩
  rw [← hp] at hple ⊢
  have HP := Lib.hid hp
  clear hp hrx hrx2
  have hb4 : Below w.heap.size w w4 := by rw [hw4]; exact hb3.drewN' q3
  have hW4 : Wr w4 w.heap.size g l2 := by rw [hw4]; exact hW.belowW ((Below.refl _ _).drewN' q3)
  have hr4 := hr.alive hb4
  have hr4t := hr2.alive hb4
  clear hw4 hb3 hW
  obtain ⟨x1, B1, d1, ex1, jx1, jx1', ⟨rx1, kx1, kx1'⟩, _, _, _, sx1⟩ := sl_from (k := p) (p : Int) rfl hr4 hple.1 hc hcm
  obtain ⟨x2, B2, d2, ex2, jx2, jx2', ⟨rx2, kx2, kx2'⟩, _, _, _, sx2⟩ := sl_from (k := p) (p : Int) rfl hr4t hple.2 hc2 hcm2
  go_wp2_with fail
  go_cut [7] (fun v wx => v = .int .i64 (ends x1 x2 : Nat) ∧ Below w4.heap.size w4 wx)
  case first =>
    go_region_with
      ((first | (go_at_call 35; refine (turned_at B1 x1 d1 w4 _ rx1 (by first | exact Below.refl _ _ | exact (Below.refl _ _).drew) (by omega)).mono ?_; rintro e w5 ⟨l5, A5, c5, e5, rfl, hr5, hb5, _⟩; have hl5 : l5.length ≤ 1048576 := (by rw [e5.out, List.length_reverse]; omega)) | (go_at_call 35; refine (turned_at B2 x2 d2 w4 _ rx2 (by first | exact hb5 | exact hb5.drew) (by omega)).mono ?_; rintro e w6 ⟨l6, A6, c6, e6, rfl, hr6, hb6, hb56⟩; have hl6 : l6.length ≤ 1048576 := (by rw [e6.out, List.length_reverse]; omega); have hr56 : Rd w6 w6.heap.size 1 A5 l5.length (bc l5) := (by first | exact hr5.alive hb56 | exact hr5.drew.alive hb56)) | (go_at_call 34; refine (alike_calls A5 l5 c5 A6 l6 c6 _ w6.heap.size w6.heap.size (by first | exact hr56 | exact hr56.drew) (by first | exact hr6 | exact hr6.drew) (by omega) (by omega)).mono ?_; rintro e w7 ⟨rfl, q7, rfl⟩)))
    all_goals
      go_wp2_with fail
      go_meet
      refine ⟨?_, ?_⟩
      · have e1 : begins l5 l6 = ends x1 x2 := by rw [e5.out, e6.out]; rfl
        rw [e1]
      · first
          | exact hb6.drewN' _
          | exact (hb6.drewN' _).drew
          | exact hb6.drew.drewN' _
          | (trace_state; fail)
  case rest =>
    obtain ⟨rfl, hb5⟩ := hcut
    have hele := ends_le x1 x2
    obtain ⟨e, he⟩ : ∃ e, e = ends x1 x2 := ⟨_, rfl⟩
    rw [← he] at hele ⊢
    have HE : Hid (e = ends (b.drop p) (t.drop p)) := by unfold Hid; rw [he, ex1.out, ex2.out]
    have hW5 := hW4.belowW hb5
    have hbw := hb4.trans (hb5.mono hb4.size)
    clear he sx1 sx2 rx1 rx2 ex1 ex2 hr4 hr4t hb5 hW4
    go_wp2_with fail
    refine (copied_calls w.heap.size g p 0 l2 wc hW5 (by omega) (by omega) (by omega)).mono ?_
    rintro e' w7 ⟨rfl, ⟨l3, e3, hW7⟩, hg7⟩
    have hl3 : l3.length ≤ 1048595 := by
      have h1 := congrArg List.length e3.out
      have := copyOf_cost0 (n := p) (by omega)
      rw [List.length_append] at h1
      omega
    have hgw : w.heap.size ≤ g := by obtain ⟨_, _, _, _, h, _⟩ := hW7; exact h
    have hb7 := hbw.trans (below_of_grown hg7 hgw hbw.size)
    clear hg7 hW5 hbw
    obtain ⟨m, Am, cm, em, jm, jm', ⟨rm, km, km'⟩, _, _, _, sm⟩ := sl_mid (lo := p) (hi := t.length - e) (p : Int) ((t.length : Int) - (e : Int)) rfl (by omega) hr2 (by omega) (by omega) hc2 hcm2
    have hTm : Hid (T = l3 ++ (midL b m ++ copyOf e (b.length - e))) := by
      unfold Hid
      rw [HT.out, enc_parts b t HP.out HE.out, e3.out, hl2.out, em.out, show t.length - e - p = t.length - p - e by omega, midL_is]
      simp only [List.append_assoc]
    clear em e3 hl2 HP HE HT
    go_wp2_with fail
    refine (middle_calls w.heap.size g l3 A b c Am m cm w7 hW7 (hr.below hb7) (rm.below hb7) hb (by omega) hl3 hc hcm km km').mono ?_
    rintro e' w8 ⟨rfl, ⟨l8, e8, hW8⟩, hg8⟩
    have hb8 := hb7.trans (below_of_grown hg8 hgw hb7.size)
    have hl8 : l8.length ≤ 1048595 := by
      have h := congrArg List.length hTm.out
      have h8 := congrArg List.length e8.out
      have := hcost.out
      simp only [List.length_append] at h h8
      omega
    have f1 : (b.length : Int) - (e : Int) = ((b.length - e : Nat) : Int) := by omega
    have hx := copied_calls w.heap.size g e (b.length - e) l8 w8 hW8 (by omega) (by omega) (by omega)
    rw [← f1] at hx
    clear f1 sm hg8 hW7 rm hW8
    go_wp2_with fail
    refine hx.mono ?_
    rintro e' w9 ⟨rfl, ⟨l9, e9, A9, c9, hB9, hr9, _, i5, i6⟩, hg9⟩
    have hb9 := hb8.trans (below_of_grown hg9 hgw hb8.size)
    have c0 : w9.cell? ⟨g, 0, none⟩ = some (.slice A9 l9.length c9) := by rw [hB9.cell]; rfl
    clear hx hg9
    go_wp2_with fail
    go_ret
    refine ⟨l9, A9, c9, ?_, rfl, hr9, hb9, i5, i6⟩
    unfold Hid
    rw [hTm.out, e9.out, e8.out, List.append_assoc]
end Go.Proofs.Ytpkfkippbanagaa
