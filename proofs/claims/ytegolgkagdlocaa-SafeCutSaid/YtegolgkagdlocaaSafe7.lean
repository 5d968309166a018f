/- The walk of the law's 'both': files as the program's. Conditions: at most 3,518,437,208,883 files; names and bytes together below 2^47. -/
import Derived.Test.YtegolgkagdlocaaRd5
import Derived.Test.YtegolgkagdlocaaAppN
namespace Go.Proofs.Ytegolgkagdlocaa
open Go.RowKit Go.Dol
set_option linter.unusedVariables false
/-- The last bits of a number. -/
theorem mask_range (x : Int) (k : Nat) (m : Int) (hm : m = ((2 ^ k - 1 : Nat) : Int)) (hk : k ≤ 62) : 0 ≤ bits .and .i64 x m ∧ bits .and .i64 x m ≤ m := by
  subst hm
  have h2 : (2 : Nat) ^ k ≤ 2 ^ 62 := Nat.pow_le_pow_right (by decide) hk
  have hp : 0 < (2 : Nat) ^ k := Nat.two_pow_pos k
  have hb : (BitVec.ofInt 64 ((2 ^ k - 1 : Nat) : Int)).toNat = 2 ^ k - 1 := by
    rw [BitVec.ofInt_natCast, BitVec.toNat_ofNat]
    exact Nat.mod_eq_of_lt (by omega)
  obtain ⟨r, hr⟩ : ∃ r, r = (BitVec.ofInt 64 x &&& BitVec.ofInt 64 ((2 ^ k - 1 : Nat) : Int)).toNat := ⟨_, rfl⟩
  have ha : r ≤ 2 ^ k - 1 := by
    rw [hr, BitVec.toNat_and, hb]
    exact Nat.and_le_right
  have e : bits .and .i64 x ((2 ^ k - 1 : Nat) : Int) = IntKind.i64.wrap (r : Int) := by rw [hr]; rfl
  rw [e, IntWalk.i64_in _ (by omega)]
  omega
theorem info_dfile : (Try.prog.info? 63).map (fun i => (i.zero, i.size, i.bytes)) = some (some (.agg #[.string ⟨#[]⟩, .slice none 0 0]), 2, 40) := by kernel_rfl
/-- The rounds of 'both': the first k files are turned. -/
def BoRel (fs : List FilA) (w : World) (q i : Value) (wr : World) : Prop :=
  ∃ (k : Nat) (A : Option Addr) (c : Nat), q = .slice A k c ∧ i = .int .i64 k ∧ k ≤ fs.length ∧ wr.ownsRow w.heap.size 63 2 (.slice A k c) k (fc (fs.take k)) ∧ Below w.heap.size w wr
/-- What 'both' hands back. -/
def RetBoth (w : World) (r : Option Dk × Int) (e : Ending) (w' : World) : Prop :=
  match r.1 with
  | none => e = .returned (.tuple #[.pointer none, .pointer none]) ∧ Below w.heap.size w w'
  | some D => ∃ g m g2, e = .returned (.tuple #[.pointer (some ⟨g, 0, none⟩), .pointer (some ⟨g2, 0, none⟩)]) ∧ Dsk w' g m D ∧ Rdk w' g2 D ∧ w.heap.size ≤ g ∧ w.heap.size ≤ m ∧ w.heap.size ≤ g2 ∧ Below w.heap.size w w'

set_option maxRecDepth 100000 in
set_option maxHeartbeats 2000000 in
theorem both_callsL (cap : Int) (A : Option Addr) (fs : List FilA) (n c : Nat) (hn : n = fs.length) (w : World) (hr : Rd w w.heap.size 2 A n (fc fs)) (hR : Fls8 w w.heap.size fs) (hnl : n ≤ 3518437208883) (hsm : ∀ x ∈ fs, x.n.size ≤ 140737488355328 ∧ x.b.length ≤ 140737488355328) (cap' : Int) (hcap : 0 ≤ cap' ∧ cap' ≤ 1048575)
    (hbits : bits .and .i64 cap 1048575 = cap') :
    Calls Try.prog 10 #[.int .i64 cap, .slice A n c] w (RetBoth w (loadD cap' (fs.map FilA.f))) := by
  have HN := Lib.hid hn
  have hn1 : n ≤ fs.length := by omega
  have hn2 : fs.length ≤ n := by omega
  clear hn
  go_enter Try.func10, Try.ntmps10
  go_wp2_with fail
  go_loopw [6, 7] (fun q i wr => BoRel fs w q i wr) (fun _ i _ => fs.length - (intOf i).toNat)
  case atStart => exact ⟨0, none, 0, rfl, rfl, Nat.zero_le _, by simpa [fc] using World.ownsRow_nil w w.heap.size 63 2, Below.refl _ _⟩
  case round =>
    obtain ⟨k, A6, c6, rfl, rfl, hk, ho, hb⟩ := hrel
    have hs := hb.size
    by_cases hlt : k < n
    · have hd : decide ((k : Int) < (n : Int)) = true := decide_eq_true (by omega)
      have hd' : (k : Int) < (n : Int) := by omega
      have hk0 : (0 : Int) ≤ (k : Int) := by omega
      have hlt2 : k < fs.length := by omega
      obtain ⟨x, hx⟩ : ∃ x, fs[k]? = some x := ⟨fs[k], List.getElem?_eq_getElem hlt2⟩
      obtain ⟨x1, x2⟩ := fc_get hx
      have hrw := hr.belowW hb (Nat.le_refl _)
      obtain ⟨bb, off, rfl, hbb, hcell⟩ := hrw.at_ (by omega)
      have q0 : wr.cell? ⟨bb, off + k * 2, none⟩ = _ := hcell _ _ x1
      have q1 : wr.cell? ⟨bb, off + k * 2 + 1, none⟩ = _ := hcell _ _ x2
      have hnext : fc (fs.take k) ++ fc [x] = fc (fs.take (k + 1)) := by rw [← fc_append, List.take_add_one, hx]; rfl
      have hxr := (Rd.fileT wr 63 x).drew
      have hone := fc_one [x]
      obtain ⟨xn, xb, xA, xc⟩ := x
      simp only at q0 q1 hxr
      have f2 : IntKind.i64.wrap ((k : Int) + 1) = (k : Int) + 1 := IntWalk.i64_in _ (by omega)
      have HX := Lib.hid hnext
      clear hx x1 x2 hcell hrw hnext hr
      go_wp2_with fail
      go_region_held3 (fun w' => w'.cell? ⟨bb, off + k * 2, none⟩ = some (.string xn) ∧ w'.cell? ⟨bb, off + k * 2 + 1, none⟩ = some (.slice xA xb.length xc)) (first | go_keep | (go_split_ands; refine ⟨?_, ?_⟩ <;> (rw [z2.cell (p := ⟨bb, _, none⟩) hbb]; assumption)))
        ((refine appNr (by rfl) (.tmp 19) (.tmp 31) 41 63 _ 2 40 (by rfl) Try.underlying41 info_dfile rfl (by decide) w.heap.size _ k (fc (fs.take k)) (by rfl) (World.ownsRow.alloc (w := World.drew wr) ho _) (wr.heap.size + 1) _ 1 1 (fc [⟨xn, xb, xA, xc⟩]) (by rfl) hxr hone (by unfold maxLen; omega) (by omega) (by simp; omega) ?_; intro A' c' w' z1 z2 z3 z4 z5))
      go_wp2_with fail
      refine ⟨⟨k + 1, A', c', rfl, by go_num, by omega, ?_, hb.trans (((Below.refl _ _).alloc hs _).drew.trans z2)⟩, by simp [intOf]; omega⟩
      rw [← HX.out]
      exact z1
    · have hd : decide ((k : Int) < (n : Int)) = false := decide_eq_false (by omega)
      have hdn : decide (k < n) = false := decide_eq_false hlt
      have hkf : k = fs.length := by omega
      have htk : fs.take k = fs := List.take_of_length_le (by omega)
      rw [htk] at ho
      have hro := Rd.of_own ho
      have hR1 := (hR.below hb).more hs
      have HLo := Lib.hid (Load_callsL cap' A6 fs k c6 hkf wr hro hR1 ⟨by omega, by omega⟩ (by omega) hsm)
      obtain ⟨r, hrr⟩ : ∃ r, r = loadD cap' (fs.map FilA.f) := ⟨_, rfl⟩
      rw [← hrr] at HLo ⊢
      have HRR := Lib.hid hrr
      obtain ⟨ro, re⟩ := r
      have hre : re = 0 ↔ ro.isSome = true := by
        have h1 := HRR.out
        unfold loadD at h1
        rw [if_neg (by omega)] at h1
        split at h1
        · injection h1 with h1 h2; rw [h1, h2]; simp
        · split at h1 <;> (injection h1 with h1 h2; rw [h1, h2]; simp)
      clear htk hkf hrr
      cases ro with
      | none =>
        have hz0 : re ≠ 0 := fun e => by have := hre.1 e; cases this
        have hz : (re == 0) = false := beq_eq_false_iff_ne.2 hz0
        have hz2 : (re != 0) = true := bne_iff_ne.2 hz0
        clear hz0
        clear hre
        go_wp2_with fail
        refine HLo.out.mono ?_
        rintro e w3 ⟨rfl, hb3⟩
        have hbw := hb.next hb3
        have HRL := Lib.hid (refLoad_callsL cap' A fs n c HN.out w3 (hr.belowW hbw (Nat.le_refl _) |>.more hbw.size) ((hR.below hbw).more hbw.size) hnl hsm)
        rw [← HRR.out] at HRL
        go_wp2_with fail
        refine HRL.out.mono ?_
        rintro e w4 ⟨rfl, hb4⟩
        go_wp2_with fail
        go_ret2
        rw [← HRR.out]
        exact ⟨rfl, hbw.next hb4⟩
      | some D =>
        have hz : re = 0 := hre.2 rfl
        subst hz
        clear hre
        go_wp2_with fail
        refine HLo.out.mono ?_
        rintro e w3 ⟨g, m, rfl, hD3, hg3, hm3, hb3⟩
        have hbw := hb.next hb3
        have HRL := Lib.hid (refLoad_callsL cap' A fs n c HN.out w3 (hr.belowW hbw (Nat.le_refl _) |>.more hbw.size) ((hR.below hbw).more hbw.size) hnl hsm)
        rw [← HRR.out] at HRL
        go_wp2_with fail
        refine HRL.out.mono ?_
        rintro e w4 ⟨g2, rfl, hD4, hg4, hb4⟩
        go_wp2_with fail
        go_ret2
        rw [← HRR.out]
        have := hbw.size
        exact ⟨g, m, g2, rfl, hD3.below hb4, hD4, by omega, by omega, by omega, hbw.next hb4⟩
theorem both_calls (cap : Int) (A : Option Addr) (fs : List FilA) (n c : Nat) (hn : n = fs.length) (w : World) (hr : Rd w w.heap.size 2 A n (fc fs)) (hR : Fls8 w w.heap.size fs) (hnl : n ≤ 3518437208883) (hsum : costs (fs.map FilA.f) ≤ 140737488355328) (cap' : Int) (hcap : 0 ≤ cap' ∧ cap' ≤ 1048575)
    (hbits : bits .and .i64 cap 1048575 = cap') :
    Calls Try.prog 10 #[.int .i64 cap, .slice A n c] w (RetBoth w (loadD cap' (fs.map FilA.f))) := both_callsL cap A fs n c hn w hr hR hnl (fls_small hsum).2 cap' hcap hbits
end Go.Proofs.Ytegolgkagdlocaa
