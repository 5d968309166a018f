/- The walks of the layer 'sum', its second part: a block is taken. Conditions: none beyond what each names. -/
import Derived.Test.YtcefbhmmijmefaaSum1
import Derived.StillTailTactics
namespace Go.Proofs.Ytcefbhmmijmefaa
open Go.RowKit Go.Dol
set_option linter.unusedVariables false

theorem bits_u32_range (op : BinOp) (a b : Int) : 0 ≤ bits op .u32 a b ∧ bits op .u32 a b < 4294967296 := by
  unfold bits
  rw [IntKind.wrap_u32]
  omega

theorem rotate_int (x : Int) (k : Nat) (kk : Int) (w : World) (hk : kk = k) (hx0 : 0 ≤ x) (hx1 : x < 4294967296) (hk0 : 0 < k) (hk1 : k < 32) :
    Calls Try.prog 86 #[.int .u32 x, .int .i64 kk] w fun e w' => e = .returned (.int .u32 (rotl x k)) ∧ w' = w := by
  subst hk
  exact (rotate_calls x k w hx0 hx1 hk0 hk1).mono fun e w' h => ⟨h.1, h.2.symm⟩

/-- Words as cells. -/
def wc (S : List Int) : List Value := S.map (Value.int .u32)
theorem wc_length (S : List Int) : (wc S).length = S.length := by simp [wc]
theorem wc_one (S : List Int) : ∀ v ∈ wc S, v.oneCell' = true := fun v hv => by
  obtain ⟨_, _, rfl⟩ := List.mem_map.1 hv
  rfl
theorem wc_get {S : List Int} (h : Words S) (tail : List Value) {i : Nat} (hi : i < 8) : (wc S ++ tail)[i]? = some (.int .u32 (getI S i)) := by
  have hl : i < S.length := by rw [h.1]; exact hi
  rw [List.getElem?_append_left (by rw [wc_length]; exact hl)]
  simp [wc, getI, List.getElem?_eq_getElem hl]
theorem wc_set (S : List Int) (tail : List Value) {i : Nat} (hi : i < S.length) (x : Int) : (wc S ++ tail).set i (.int .u32 x) = wc (S.set i x) ++ tail := by
  rw [List.set_append_left _ _ (by rw [wc_length]; exact hi)]
  simp [wc, List.map_set]

/-- The block's words, as far as they have been read. -/
def part (b : List UInt8) (k : Nat) : List Int := (List.range 8).map fun j => if j < k then wordAt b j else 0
theorem part_zero (b : List UInt8) : part b 0 = [0, 0, 0, 0, 0, 0, 0, 0] := by simp [part]; decide
theorem part_all (b : List UInt8) : part b 8 = wordsOf b := by
  unfold part wordsOf
  refine List.map_congr_left fun j hj => ?_
  rw [if_pos (by simpa using hj)]
theorem part_length (b : List UInt8) (k : Nat) : (part b k).length = 8 := by simp [part]
theorem part_set (b : List UInt8) (k : Nat) (hk : k < 8) : (part b k).set k (wordAt b k) = part b (k + 1) := by
  apply List.ext_getElem (by simp [part])
  intro j h1 h2
  simp only [part, List.length_set, List.length_map, List.length_range] at h1
  simp only [part, List.getElem_set, List.getElem_map, List.getElem_range]
  by_cases h : k = j
  · subst h
    simp
  · rw [if_neg h]
    by_cases h3 : j < k
    · rw [if_pos h3, if_pos (by omega)]
    · rw [if_neg h3, if_neg (by omega)]

def FillRel (b : List UInt8) (w : World) (T : TypeId) (i : Value) (wr : World) : Prop :=
  ∃ k : Nat, i = .int .i64 k ∧ k ≤ 8 ∧ Blk wr w.heap.size T (wc (part b k)) ∧ Below w.heap.size w wr
def OuterRel (S W : List Int) (tail : List Value) (g gw : Nat) (T Tw : TypeId) (w : World) (i : Value) (wr : World) : Prop :=
  ∃ r : Nat, i = .int .i64 r ∧ r ≤ 8 ∧ Blk wr g T (wc (rounds S W r) ++ tail) ∧ Blk wr gw Tw (wc W ++ []) ∧ w.grownBy wr (some g)
def InnerRel (S W : List Int) (r : Nat) (tail : List Value) (g gw : Nat) (T Tw : TypeId) (w : World) (i : Value) (wr : World) : Prop :=
  ∃ k : Nat, i = .int .i64 k ∧ k ≤ 8 ∧ Blk wr g T (wc (inner S W r k) ++ tail) ∧ Blk wr gw Tw (wc W ++ []) ∧ w.grownBy wr (some g)

set_option pp.deepTerms true in
set_option pp.maxSteps 1000000 in
set_option maxRecDepth 100000 in
set_option maxHeartbeats 1000000 in
theorem take_calls (g : Nat) (T : TypeId) (S : List Int) (tail : List Value) (A : Option Addr) (l : List UInt8) (n c : Nat) (w : World) (hS : Words S) (hb : Blk w g T (wc S ++ tail)) (hr : Rd w w.heap.size 1 A n (bc l)) (hn : n = 32) (hc : 32 ≤ c) :
    Calls Try.prog 69 #[.pointer (some ⟨g, 0, none⟩), .slice A n c] w fun e w' => e = .returned (.tuple #[]) ∧ Blk w' g T (wc (sumB S l) ++ tail) ∧ w.grownBy w' (some g) := by
  subst hn
  have hl : l.length = 32 := by have := hr.len; rw [bc_length] at this; omega
  have HL := Lib.hid hl
  clear hl
  have hgw := hb.lt
  go_enter Try.func69, Try.ntmps69
  go_wp2_with fail
  go_loopw [9] (fun i wr => FillRel l w 86 i wr) (fun i _ => 8 - (intOf i).toNat)
  case atStart => exact ⟨0, rfl, by omega, by rw [part_zero]; exact Blk.new w _ _, (Below.refl _ _).alloc (Nat.le_refl _) _⟩
  case round =>
    obtain ⟨k, rfl, hk, hbk, hbel⟩ := hrel
    have hs := hbel.size
    by_cases hlt : k < 8
    · have hcellw : wr.cell? ⟨w.heap.size, k, none⟩ = some (.int .u32 ((part l k)[k]?.getD 0)) := by
        rw [hbk.cell]
        simp [wc, List.getElem?_eq_getElem (show k < (part l k).length by rw [part_length]; exact hlt)]
      have hfree := hbk.free k
      have hr' : Rd wr w.heap.size 1 A l.length (bc l) := by rw [HL.out]; exact hr.belowW hbel (Nat.le_refl _)
      have ht := hr'.tail (k := 4 * k) (cap := c) (by rw [HL.out]; omega) (by rw [HL.out]; exact hc)
      rw [if_neg (by omega)] at ht
      rw [HL.out] at ht
      obtain ⟨v, hv⟩ : ∃ v, v = leN ((l.drop (4 * k)).take 4) := ⟨_, rfl⟩
      have hv2 : v < 4294967296 := by
        have := (wordAt_range l k).2
        unfold wordAt at this
        rw [hv]
        omega
      have HV : Hid ((v : Int) = wordAt l k) := by unfold Hid wordAt; rw [hv]
      have Hv := Lib.hid hv
      clear hv
      go_wp2_with fail
      refine (number_calls _ (l.drop (4 * k)) _ _ 4 wr _ ht (by omega) (by omega) (by omega)).mono ?_
      rintro e w1 ⟨rfl, rfl⟩
      rw [← Hv.out]
      go_wp2_with fail
      refine ⟨⟨k + 1, by go_num, by omega, ?_, hbel.setCell (Nat.le_refl _) _⟩, by simp [intOf]; omega⟩
      have h1 := hbk.set k (.int .u32 v)
      have h2 := wc_set (part l k) [] (i := k) (by rw [part_length]; exact hlt) v
      simp only [List.append_nil] at h2
      have h3 : (part l k).set k (v : Int) = part l (k + 1) := by rw [HV.out, part_set l k hlt]
      rw [h2, h3] at h1
      exact h1
    · have hk8 : k = 8 := by omega
      rw [hk8, part_all] at hbk
      have HK := Lib.hid hk8
      clear hk8
      have hW := wordsOf_words l
      obtain ⟨W, hWe⟩ : ∃ W, W = wordsOf l := ⟨_, rfl⟩
      rw [← hWe] at hbk hW
      have HW := Lib.hid hWe
      clear hWe
      have hbg : Blk wr g T (wc S ++ tail) := hb.below hbel hgw
      have hgr : w.grownBy wr (some g) := grown_of_below hbel _
      obtain ⟨gw, hgwe⟩ : ∃ gw, gw = w.heap.size := ⟨_, rfl⟩
      have hne : g ≠ gw := by omega
      rw [← hgwe] at hbk
      have hbk' : Blk wr gw 86 (wc W ++ []) := by rw [List.append_nil]; exact hbk
      have HG := Lib.hid hgwe
      rw [← hgwe]
      clear hbk hbel hr hb hgwe hs hgw
      go_wp2_with fail
      go_loopw [21] (fun i wr => OuterRel S W tail g gw T 86 w i wr) (fun i _ => 8 - (intOf i).toNat)
      case atStart => exact ⟨0, rfl, by omega, hbg, hbk', hgr⟩
      case round =>
        clear hbg hbk' hgr
        obtain ⟨r, rfl, hr8, hbg, hbk, hgr⟩ := hrel
        by_cases hlt2 : r < 8
        · have hwo := hS.rounds W r
          have hrd : decide ((r : Int) < 8) = true := by simp; omega
          go_wp2_with fail
          go_loopw [24] (fun i wr => InnerRel (rounds S W r) W r tail g gw T 86 w i wr) (fun i _ => 8 - (intOf i).toNat)
          case atStart => exact ⟨0, rfl, by omega, hbg, hbk, hgr⟩
          case round =>
            clear hbg hbk hgr
            obtain ⟨k, rfl, hk8, hbg, hbk, hgr⟩ := hrel
            by_cases hlt3 : k < 8
            · obtain ⟨S', hS'⟩ : ∃ S', S' = inner (rounds S W r) W r k := ⟨_, rfl⟩
              have hw' : Words S' := by rw [hS']; exact hwo.inner W r k
              rw [← hS'] at hbg
              obtain ⟨x1, hx1⟩ : ∃ x, x = getI S' k := ⟨_, rfl⟩
              obtain ⟨x2, hx2⟩ : ∃ x, x = getI W ((k + r) % 8) := ⟨_, rfl⟩
              obtain ⟨x3, hx3⟩ : ∃ x, x = getI S' ((k + 1) % 8) := ⟨_, rfl⟩
              have hc1 : wr.cell? ⟨g, k, none⟩ = some (.int .u32 x1) := by rw [hbg.cell, hx1]; exact wc_get hw' tail hlt3
              have hc2 : wr.cell? ⟨gw, (k + r) % 8, none⟩ = some (.int .u32 x2) := by rw [hbk.cell, hx2]; exact wc_get hW [] (Nat.mod_lt _ (by omega))
              have hc3 : wr.cell? ⟨g, (k + 1) % 8, none⟩ = some (.int .u32 x3) := by rw [hbg.cell, hx3]; exact wc_get hw' tail (Nat.mod_lt _ (by omega))
              have hfr := hbg.free k
              have hrx := bits_u32_range .xor x1 x2
              have HS' := Lib.hid hS'
              have HX1 := Lib.hid hx1
              have HX2 := Lib.hid hx2
              have HX3 := Lib.hid hx3
              clear hS' hx1 hx2 hx3
              go_wp2_with fail
              go_quiet ((go_at_call 86; exact Calls.quiet_of_same (rotate_int _ (5 + 3 * k) _ _ (by omega) hrx.1 hrx.2 (by omega) (by omega))))
              go_wp2_with fail
              have f0 : IntKind.i64.wrap ((k : Int) + 1) = (k : Int) + 1 := IntWalk.i64_in _ (by omega)
              have f1 : ((k : Int) + 1).tmod 8 = ((k : Int) + 1) % 8 := Int.tmod_eq_emod_of_nonneg (by omega)
              have f2 : (0 : Int) ≤ ((k : Int) + 1) % 8 := by omega
              have f3 : ((k : Int) + 1) % 8 < 8 := by omega
              have f4 : (((k : Int) + 1) % 8).toNat = (k + 1) % 8 := by omega
              have f5 : IntKind.i64.wrap ((k : Int) + (r : Int)) = (k : Int) + (r : Int) := IntWalk.i64_in _ (by omega)
              have f6 : IntKind.u32.wrap ((k : Int) + (r : Int)) = (k : Int) + (r : Int) := by rw [IntKind.wrap_u32]; omega
              refine wp_region_still_tail 19 (by kernel_rfl) (by kernel_rfl) ?_
              change wpStill _ _ (World.drew (wr.drewN nq)) (fun a' => wpList _ _ _ _ a' (World.drew (wr.drewN nq))) _ _
              obtain ⟨w2, hw2⟩ : ∃ w2, w2 = World.drew (wr.drewN nq) := ⟨_, rfl⟩
              rw [← hw2]
              have gbg : Blk w2 g T (wc S' ++ tail) := by rw [hw2]; exact (hbg.drewN nq).drew
              have gbk : Blk w2 gw 86 (wc W ++ []) := by rw [hw2]; exact (hbk.drewN nq).drew
              have ggr : w.grownBy w2 (some g) := by rw [hw2]; exact grown_drew (grown_drewN hgr nq)
              have gc3 : w2.cell? ⟨g, (k + 1) % 8, none⟩ = some (.int .u32 x3) := by rw [hw2]; simpa using hc3
              have gc1 : w2.cell? ⟨g, k, none⟩ = some (.int .u32 x1) := by rw [hw2]; simpa using hc1
              have gfr := gbg.free k
              clear hw2 hbg hbk hgr hc1 hc2 hc3 hfr
              simp only [List.take_succ_cons, List.take_zero, List.drop_succ_cons, List.drop_zero]
              repeat still_step
              refine wpStill_nil ?_
              go_wp2_with fail
              have hmix : (rotl (bits .xor .u32 x1 x2) (5 + 3 * k) + x3 * 2246822507 + ((k : Int) + (r : Int))) % 4294967296 = mixAt S' W r k := by
                rw [HX1.out, HX2.out, HX3.out]
                rfl
              have HM := Lib.hid hmix
              clear hmix
              refine ⟨⟨k + 1, by go_num, by omega, ?_, gbk.far (p := ⟨g, k, none⟩) (fun e => hne e.symm) _, grown_setCell ggr _ _⟩, by simp [intOf]; omega⟩
              have h1 := gbg.set k (.int .u32 (mixAt S' W r k))
              rw [wc_set S' tail (by rw [hw'.1]; exact hlt3)] at h1
              rw [HM.out]
              have h2 : inner (rounds S W r) W r (k + 1) = S'.set k (mixAt S' W r k) := by rw [HS'.out]; rfl
              rw [h2]
              exact h1
            · have hk88 : k = 8 := by omega
              have HK8 := Lib.hid hk88
              clear hk88
              go_wp2_with fail
              refine ⟨⟨r + 1, by go_num, by omega, ?_, hbk, hgr⟩, by simp [intOf]; omega⟩
              rw [HK8.out] at hbg
              exact hbg
        · have hr88 : r = 8 := by omega
          have HR8 := Lib.hid hr88
          clear hr88
          go_wp2_with fail
          go_end0
          refine ⟨rfl, ?_, hgr⟩
          rw [HW.out, HR8.out] at hbg
          exact hbg
end Go.Proofs.Ytcefbhmmijmefaa
