/- The walks of the layer 'delta', its fifth part: the document's Encode. Conditions: lengths below 2^20. -/
import Derived.Test.YtpkfkippbanagaaDelta3
import Derived.Test.YtpkfkippbanagaaDelta4
import Derived.Test.YtpkfkippbanagaaDelta1b
import Derived.Test.YtpkfkippbanagaaDeltaMid
import Derived.Test.YtpkfkippbanagaaPiece
namespace Go.Proofs.Ytpkfkippbanagaa
open Go.RowKit Go.Dol
set_option linter.unusedVariables false

theorem clampN_of {k : Nat} (h : k ≤ 4611686018427387903) : clampN (k : Int) = k := by unfold clampN; omega
theorem _root_.Go.Dol.Rd.alive {w w' : World} {A : Option Addr} {n : Nat} {xs : List Value} {size : Nat} (h : Rd w w.heap.size size A n xs) (hb : Below w.heap.size w w') : Rd w' w'.heap.size size A n xs := (h.below hb).more hb.size
theorem drewN_below (w : World) (n : Nat) : Below w.heap.size w (w.drewN n) := (Below.refl _ _).drewN' n

def EncRel (T tail base m : List UInt8) (w : World) (out frm i : Value) (wr : World) : Prop :=
  ∃ (k f : Nat) (l : List UInt8) (A1 : Option Addr) (c1 : Nat), out = .slice A1 l.length c1 ∧ frm = .int .i64 f ∧ i = .int .i64 k ∧ f ≤ k ∧ k ≤ m.length ∧ Hid (T = l ++ (midG base m k f ++ tail)) ∧
    Rd wr wr.heap.size 1 A1 l.length (bc l) ∧ Below w.heap.size w wr ∧ l.length ≤ c1 ∧ c1 ≤ maxLen

set_option maxRecDepth 100000 in
set_option maxHeartbeats 4000000 in
theorem refEncode_calls (A : Option Addr) (b : List UInt8) (c : Nat) (A2 : Option Addr) (t : List UInt8) (c2 : Nat) (w : World) (hr : Rd w w.heap.size 1 A b.length (bc b)) (hr2 : Rd w w.heap.size 1 A2 t.length (bc t))
    (hb : b.length ≤ 1048576) (ht : t.length ≤ 1048576) (hc : b.length ≤ c) (hcm : c ≤ maxLen) (hc2 : t.length ≤ c2) (hcm2 : c2 ≤ maxLen) :
    Calls Try.prog 28 #[.slice A b.length c, .slice A2 t.length c2] w (RetS w (encL b t)) := by
  have hcb : Hid (clampN (b.length : Int) = b.length) := clampN_of (by omega)
  have hct : Hid (clampN (t.length : Int) = t.length) := clampN_of (by omega)
  have hcost : Hid ((encL b t).length ≤ 1048595) := by unfold Hid; have := enc_cost (base := b) (target := t) hb ht; omega
  obtain ⟨T, hT⟩ : ∃ T, T = encL b t := ⟨_, rfl⟩
  rw [← hT] at hcost ⊢
  have HT := Lib.hid hT
  clear hT
  go_enter Try.func28, Try.ntmps28
  go_wp2_with fail
  refine (RefPutNum_calls none [] 0 _ w Rd.nil (by decide)).mono ?_
  rintro e w1 ⟨l1, A1, c1, e1, rfl, ho1, hb1, i1, i2⟩
  have hl1 : l1.length ≤ 9 := by
    rw [e1.out, hcb.out, List.nil_append]
    exact num_length_le 8 _ (by omega)
  go_wp2_with fail
  refine (RefPutNum_calls A1 l1 c1 _ w1 (Rd.of_own ho1) (by omega)).mono ?_
  rintro e w2 ⟨l2, A2', c2', e2, rfl, ho2, hb2, i3, i4⟩
  have hl2 : Hid (l2 = num b.length ++ num t.length) := by unfold Hid; rw [e2.out, e1.out, hcb.out, hct.out, List.nil_append]
  have hb12 := hb1.next hb2
  have hrx := hr.alive hb12
  have hrx2 := hr2.alive hb12
  have hro := Rd.of_own ho2
  clear e2 e1 hcb hct ho1 ho2 hb1 hb2
  go_wp2_with fail
  refine (refbegins_calls A b c A2 t c2 w2 _ _ hrx hrx2 (by omega) (by omega)).mono ?_
  rintro e w3 ⟨rfl, q3, hw3⟩
  have hple := begins_le b t
  obtain ⟨p, hp⟩ : ∃ p, p = begins b t := ⟨_, rfl⟩
  rw [← hp] at hple ⊢
  have HP := Lib.hid hp
  clear hp
  have hb3 : Below w.heap.size w w3 := by rw [hw3]; exact hb12.drewN' q3
  have hrx3 := hr.alive hb3
  have hrx3t := hr2.alive hb3
  have hro3 : Rd w3 w3.heap.size 1 A2' l2.length (bc l2) := by rw [hw3]; exact hro.drewN q3
  clear hw3 hrx hrx2 hro hb12
  obtain ⟨x1, B1, d1, ex1, jx1, jx1', ⟨rx1, kx1, kx1'⟩, _, _, _, sx1⟩ := sl_from (k := p) (p : Int) rfl hrx3 hple.1 hc hcm
  obtain ⟨x2, B2, d2, ex2, jx2, jx2', ⟨rx2, kx2, kx2'⟩, _, _, _, sx2⟩ := sl_from (k := p) (p : Int) rfl hrx3t hple.2 hc2 hcm2
  go_wp2_with fail
  go_quiet ((go_at_call 39; exact Calls.quiet_of (refends_calls B1 x1 d1 B2 x2 d2 _ w3.heap.size w3.heap.size (rx1.drewN _) (rx2.drewN _) (by omega) (by omega))))
  have hele := ends_le x1 x2
  obtain ⟨e, he⟩ : ∃ e, e = ends x1 x2 := ⟨_, rfl⟩
  rw [← he] at hele ⊢
  have HE : Hid (e = ends (b.drop p) (t.drop p)) := by unfold Hid; rw [he, ex1.out, ex2.out]
  clear he
  obtain ⟨w4, hw4⟩ : ∃ v, v = w3.drewN nq := ⟨_, rfl⟩
  rw [← hw4]
  have hb4 : Below w.heap.size w w4 := by rw [hw4]; exact hb3.drewN' nq
  have hro4 : Rd w4 w4.heap.size 1 A2' l2.length (bc l2) := by rw [hw4]; exact hro3.drewN nq
  clear hw4 sx1 sx2 rx1 rx2 hro3 hrx3 hrx3t hb3 ex1 ex2
  go_wp2_with fail
  refine (refcopyOf_calls A2' l2 c2' p 0 w4 hro4 i3 i4 (by omega) (by omega) (by have := num_length_le 8 b.length (by omega); have := num_length_le 8 t.length (by omega); rw [hl2.out, List.length_append]; omega)).mono ?_
  rintro e' w5 ⟨l3, A3, c3, e3, rfl, hr3, hb5', i5, i6⟩
  have hb5 := hb4.trans (hb5'.mono hb4.size)
  clear hb5' hb4 hro4
  obtain ⟨m, Am, cm, em, jm, jm', ⟨rm, km, km'⟩, _, _, _, sm⟩ := sl_mid (lo := p) (hi := t.length - e) (p : Int) ((t.length : Int) - (e : Int)) rfl (by omega) hr2 (by omega) (by omega) hc2 hcm2
  have hTm : Hid (T = l3 ++ (midG b m 0 0 ++ copyOf e (b.length - e))) := by
    unfold Hid
    rw [HT.out, enc_parts b t HP.out HE.out, e3.out, hl2.out, em.out, show t.length - e - p = t.length - p - e by omega]
    simp only [List.append_assoc]
  go_wp2_with fail
  clear sm em e3 hl2 HP HE HT
  go_loopw [5, 9, 10] (fun out frm i wr => EncRel T (copyOf e (b.length - e)) b m w out frm i wr) (fun _ _ i _ => m.length - (intOf i).toNat)
  case atStart => exact ⟨0, 0, l3, A3, c3, rfl, rfl, rfl, Nat.le_refl _, Nat.zero_le _, hTm, hr3, hb5, i5, i6⟩
  case round =>
    clear hr3 hb5 hTm i5 i6
    obtain ⟨k, f, l, A1, c1, rfl, rfl, rfl, hfk, hkm, hT, hrl, hbel, i5, i6⟩ := hrel
    have hll : l.length ≤ 1048595 := by have := hcost.out; have h := congrArg List.length hT.out; rw [List.length_append] at h; omega
    have hrb := hr.alive hbel
    have hrm := rm.alive hbel
    by_cases hkl : k < m.length
    · have d1 : decide ((k : Int) < (m.length : Int)) = true := by simp; omega
      have d1' : (k : Int) < (m.length : Int) := by omega
      obtain ⟨x, Ax, cx, ex, jx, jx', ⟨rx, kx, kx'⟩, _, _, _, sx⟩ := sl_from (k := k) (k : Int) rfl hrm hkm km km'
      go_wp2_with fail
      refine (refblock_calls A b c Ax x cx wr _ _ hrb rx hc (by omega) (by omega)).mono ?_
      rintro e' w6 ⟨rfl, q6, hw6⟩
      have hrl6 : Rd w6 w6.heap.size 1 A1 l.length (bc l) := by rw [hw6]; exact hrl.drewN q6
      have hrb6 : Rd w6 w6.heap.size 1 A b.length (bc b) := by rw [hw6]; exact hrb.drewN q6
      have hrm6 : Rd w6 w6.heap.size 1 Am m.length (bc m) := by rw [hw6]; exact hrm.drewN q6
      have rx6 : Rd w6 w6.heap.size 1 Ax x.length (bc x) := by rw [hw6]; exact rx.drewN q6
      have hbel6 : Below w.heap.size w w6 := by rw [hw6]; exact hbel.drewN' q6
      clear hw6 hrl hrb hrm rx hbel
      rcases hk : blockAt b x with _ | kk
      · have hT' : Hid (T = l ++ (midG b m (k + 1) f ++ copyOf e (b.length - e))) := by unfold Hid; rw [hT.out, midG_next hkl (by rw [← ex.out]; exact hk)]
        clear hk
        simp only [blockI]
        go_wp2_with fail
        exact ⟨⟨k + 1, f, l, A1, c1, rfl, rfl, by go_num, by omega, by omega, hT', hrl6, hbel6, i5, i6⟩, by simp [intOf]; omega⟩
      · have hsp := blockAt_spec hk
        have hT' : Hid (T = l ++ (runB ((m.drop f).take (k - f)) ++ (copyOf (begins (b.drop kk) x) kk ++ midG b m (k + begins (b.drop kk) x) (k + begins (b.drop kk) x)) ++ copyOf e (b.length - e))) := by
          unfold Hid; rw [hT.out, midG_copy hkl (by rw [← ex.out]; exact hk), ← ex.out]
        clear hk
        simp only [blockI]
        obtain ⟨y, Ay, cy, ey, jy, jy', ⟨ry, ky, ky'⟩, _, _, _, sy⟩ := sl_from (k := kk) (kk : Int) rfl hrb6 (by omega) hc hcm
        have d2 : decide ((kk : Int) < 0) = false := by simp
        go_wp2_with fail
        go_quiet ((go_at_call 38; exact Calls.quiet_of (refbegins_calls Ay y cy Ax x cx _ w6.heap.size w6.heap.size (ry.drewN _) (rx6.drewN _) (by omega) (by omega))))
        have hgl := begins_le y x
        rw [← ey.out] at hT' hsp
        obtain ⟨g, hg⟩ : ∃ g, g = begins y x := ⟨_, rfl⟩
        rw [← hg] at hgl hT' hsp ⊢
        obtain ⟨w7, hw7⟩ : ∃ v, v = w6.drewN nq := ⟨_, rfl⟩
        rw [← hw7]
        have hrl7 : Rd w7 w7.heap.size 1 A1 l.length (bc l) := by rw [hw7]; exact hrl6.drewN nq
        have hrm7 : Rd w7 w7.heap.size 1 Am m.length (bc m) := by rw [hw7]; exact hrm6.drewN nq
        have hbel7 : Below w.heap.size w w7 := by rw [hw7]; exact hbel6.drewN' nq
        clear hw7 hrl6 hrb6 hrm6 hbel6 sx sy ry rx6 hg ex ey
        obtain ⟨z, Az, cz, ez, jz, jz', ⟨rz, kz, kz'⟩, _, _, _, sz⟩ := sl_mid (lo := f) (hi := k) (f : Int) (k : Int) rfl rfl hrm7 hfk hkm km km'
        rw [← ez.out] at hT'
        go_wp2_with fail
        refine (refinsert_calls A1 l c1 Az z z.length cz w7 rfl hrl7 i5 i6 rz (by omega)).mono ?_
        rintro e' w8 ⟨l8, A8, c8, e8, rfl, hr8, hb8, i7, i8⟩
        have hl8 : l8.length ≤ 1048595 := by
          have h := congrArg List.length hT'.out
          have h8 := congrArg List.length e8.out
          have := hcost.out
          simp only [List.length_append] at h h8
          omega
        clear sz hrm7 hrl7 rz ez
        go_wp2_with fail
        refine (refcopyOf_calls A8 l8 c8 g kk w8 hr8 i7 i8 (by omega) (by omega) (by omega)).mono ?_
        rintro e' w9 ⟨l9, A9, c9, e9, rfl, hr9, hb9, i9, i10⟩
        have hb79 := hb8.next hb9
        go_wp2_with fail
        refine ⟨⟨k + g, k + g, l9, A9, c9, rfl, by go_num, by go_num, Nat.le_refl _, by omega, ?_, hr9, hbel7.trans (hb79.mono hbel7.size), i9, i10⟩, by simp [intOf]; omega⟩
        unfold Hid
        rw [hT'.out, e9.out, e8.out]
        simp only [List.append_assoc]
    · have d1 : decide ((k : Int) < (m.length : Int)) = false := by simp; omega
      have d1' : ¬ (k : Int) < (m.length : Int) := by omega
      obtain ⟨x, Ax, cx, ex, jx, jx', ⟨rx, kx, kx'⟩, _, _, _, sx⟩ := sl_from (k := f) (f : Int) rfl hrm (by omega) km km'
      have hT' : Hid (T = l ++ (runB x ++ copyOf e (b.length - e))) := by unfold Hid; rw [hT.out, midG_end (by omega), ex.out]
      clear hT ex
      go_wp2_with fail
      refine (refinsert_calls A1 l c1 Ax x x.length cx wr rfl hrl i5 i6 rx (by omega)).mono ?_
      rintro e' w8 ⟨l8, A8, c8, e8, rfl, hr8, hb8, i7, i8⟩
      have hl8 : l8.length ≤ 1048595 := by
        have h := congrArg List.length hT'.out
        have h8 := congrArg List.length e8.out
        have := hcost.out
        simp only [List.length_append] at h h8
        omega
      have f1 : (b.length : Int) - (e : Int) = ((b.length - e : Nat) : Int) := by omega
      have hx := refcopyOf_calls A8 l8 c8 e (b.length - e) w8 hr8 i7 i8 (by omega) (by omega) (by omega)
      rw [← f1] at hx
      clear f1 sx hrm hrl rx
      go_wp2_with fail
      refine hx.mono ?_
      rintro e' w9 ⟨l9, A9, c9, e9, rfl, hr9, hb9, i9, i10⟩
      clear hx
      go_wp2_with fail
      go_ret
      refine ⟨l9, A9, c9, ?_, rfl, hr9, hbel.trans ((hb8.next hb9).mono hbel.size), i9, i10⟩
      unfold Hid
      rw [hT'.out, e9.out, e8.out, List.append_assoc]
end Go.Proofs.Ytpkfkippbanagaa
