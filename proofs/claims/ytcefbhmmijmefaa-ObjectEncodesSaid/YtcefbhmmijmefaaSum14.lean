/- The walks of the layer 'sum', its fourteenth part: the document's block. Conditions: none beyond what each names. -/
import Derived.Test.YtcefbhmmijmefaaSum13
import Derived.Test.YtcefbhmmijmefaaSumA
import Derived.Test.YtcefbhmmijmefaaAppV
namespace Go.Proofs.Ytcefbhmmijmefaa
open Go.RowKit Go.Dol
set_option linter.unusedVariables false

theorem info_u32 : (Try.prog.info? 67).map (fun i => (i.zero, i.size, i.bytes)) = some (some (.int .u32 0), 1, 4) := by kernel_rfl

/-- The words read so far. -/
def upW (l : List UInt8) (k : Nat) : List Int := (List.range k).map (wordAt l)
theorem upW_succ (l : List UInt8) (k : Nat) : upW l (k + 1) = upW l k ++ [wordAt l k] := by
  unfold upW
  rw [List.range_succ, List.map_append]
  rfl
theorem upW_length (l : List UInt8) (k : Nat) : (upW l k).length = k := by simp [upW]
theorem wordAt_four (l : List UInt8) (i : Nat) (h : 4 * i + 3 < l.length) : wordAt l i = ((l[4 * i]).toNat : Int) + 256 * ((l[4 * i + 1]).toNat : Int) + 65536 * ((l[4 * i + 2]).toNat : Int) + 16777216 * ((l[4 * i + 3]).toNat : Int) := by
  unfold wordAt
  rw [List.drop_eq_getElem_cons (by omega), List.drop_eq_getElem_cons (by omega), List.drop_eq_getElem_cons (by omega), List.drop_eq_getElem_cons h]
  have e1 : 4 * i + 1 + 1 = 4 * i + 2 := rfl
  simp only [List.take_succ_cons, List.take_zero, leN, List.foldr, e1]
  omega

def WRel (l : List UInt8) (w : World) (v i : Value) (wr : World) : Prop :=
  ∃ (k : Nat) (A : Option Addr) (c : Nat), v = .slice A k c ∧ i = .int .i64 k ∧ k ≤ 8 ∧ k ≤ c ∧ wr.ownsRow w.heap.size 67 1 (.slice A k c) k (wc (upW l k)) ∧ Below w.heap.size w wr

def OuterRelR (S W : List Int) (tail tw : List Value) (g gw : Nat) (T : TypeId) (w : World) (i : Value) (wr : World) : Prop :=
  ∃ r : Nat, i = .int .i64 r ∧ r ≤ 8 ∧ Blk wr g T (wc (rounds S W r) ++ tail) ∧ Blk wr gw T (wc W ++ tw) ∧ w.grownBy wr (some g)
def InnerRelR (S W : List Int) (r : Nat) (tail tw : List Value) (g gw : Nat) (T : TypeId) (w : World) (i : Value) (wr : World) : Prop :=
  ∃ k : Nat, i = .int .i64 k ∧ k ≤ 8 ∧ Blk wr g T (wc (inner S W r k) ++ tail) ∧ Blk wr gw T (wc W ++ tw) ∧ w.grownBy wr (some g)

set_option maxRecDepth 100000 in
set_option maxHeartbeats 1000000 in
theorem reftake_calls (g n8 : Nat) (S : List Int) (tail : List Value) (cs : Nat) (A : Option Addr) (l : List UInt8) (n c : Nat) (w : World) (hS : Words S) (hb : Blk w g 67 (wc S ++ tail)) (hcs : 8 ≤ cs) (hr : Rd w w.heap.size 1 A n (bc l)) (hn : n = 32) (hn8 : n8 = 8) :
    Calls Try.prog 55 #[.slice (some ⟨g, 0, none⟩) n8 cs, .slice A n c] w fun e w' => e = .returned (.tuple #[]) ∧ Blk w' g 67 (wc (sumB S l) ++ tail) ∧ w.grownBy w' (some g) := by
  subst hn
  subst hn8
  have hl : l.length = 32 := by have := hr.len; rw [bc_length] at this; omega
  have HL := Lib.hid hl
  clear hl
  have hgw := hb.lt
  obtain ⟨bb, off, rfl, hbb, hcells⟩ := hr.at_ (by omega)
  have HC := Lib.hid hcells
  clear hcells
  go_enter Try.func55, Try.ntmps55
  go_wp2_with fail
  go_loopw [4, 5] (fun v i wr => WRel l w v i wr) (fun _ i _ => 8 - (intOf i).toNat)
  case atStart => exact ⟨0, none, 0, rfl, rfl, by omega, by omega, ⟨by simp [wc, upW], .inl ⟨rfl, by simp⟩⟩, Below.refl _ _⟩
  case round =>
    obtain ⟨k, A1, c1, rfl, rfl, hk, hkc, ho, hbel⟩ := hrel
    have hs := hbel.size
    by_cases hlt : k < 8
    · have hl4 : 4 * k + 3 < l.length := by rw [HL.out]; omega
      have hw4 := wordAt_four l k hl4
      have hwr := wordAt_range l k
      obtain ⟨x0, hx0⟩ : ∃ x, x = (l[4 * k]).toNat := ⟨_, rfl⟩
      obtain ⟨x1, hx1⟩ : ∃ x, x = (l[4 * k + 1]).toNat := ⟨_, rfl⟩
      obtain ⟨x2, hx2⟩ : ∃ x, x = (l[4 * k + 2]).toNat := ⟨_, rfl⟩
      obtain ⟨x3, hx3⟩ : ∃ x, x = (l[4 * k + 3]).toNat := ⟨_, rfl⟩
      have b0 : x0 < 256 := by have := (l[4 * k]).toNat_lt; omega
      have b1 : x1 < 256 := by have := (l[4 * k + 1]).toNat_lt; omega
      have b2 : x2 < 256 := by have := (l[4 * k + 2]).toNat_lt; omega
      have b3 : x3 < 256 := by have := (l[4 * k + 3]).toNat_lt; omega
      have q0 : wr.cell? ⟨bb, off + 4 * k, none⟩ = some (.int .u8 x0) := by rw [hbel.cell (p := ⟨bb, _, none⟩) hbb, hx0]; exact HC.out (4 * k) _ (bc_get l _ (by omega))
      have q1 : wr.cell? ⟨bb, off + (4 * k + 1), none⟩ = some (.int .u8 x1) := by rw [hbel.cell (p := ⟨bb, _, none⟩) hbb, hx1]; exact HC.out (4 * k + 1) _ (bc_get l _ (by omega))
      have q2 : wr.cell? ⟨bb, off + (4 * k + 2), none⟩ = some (.int .u8 x2) := by rw [hbel.cell (p := ⟨bb, _, none⟩) hbb, hx2]; exact HC.out (4 * k + 2) _ (bc_get l _ (by omega))
      have q3 : wr.cell? ⟨bb, off + (4 * k + 3), none⟩ = some (.int .u8 x3) := by rw [hbel.cell (p := ⟨bb, _, none⟩) hbb, hx3]; exact HC.out (4 * k + 3) _ (bc_get l _ (by omega))
      rw [← hx0, ← hx1, ← hx2, ← hx3] at hw4
      obtain ⟨v, hv⟩ : ∃ v : Nat, v = x0 + 256 * x1 + 65536 * x2 + 16777216 * x3 := ⟨_, rfl⟩
      have hve : wordAt l k = (v : Int) := by omega
      have HVE := Lib.hid hve
      have HV := Lib.hid hv
      clear hw4 hx0 hx1 hx2 hx3 hl4 hwr hve hv
      have u0 : IntKind.u32.wrap (x0 : Int) = x0 := by rw [IntKind.wrap_u32]; omega
      have u1 : IntKind.u32.wrap (x1 : Int) = x1 := by rw [IntKind.wrap_u32]; omega
      have u2 : IntKind.u32.wrap (x2 : Int) = x2 := by rw [IntKind.wrap_u32]; omega
      have u3 : IntKind.u32.wrap (x3 : Int) = x3 := by rw [IntKind.wrap_u32]; omega
      have u4 : IntKind.u32.wrap (256 * (x1 : Int)) = 256 * (x1 : Int) := by rw [IntKind.wrap_u32]; omega
      have u5 : IntKind.u32.wrap (65536 * (x2 : Int)) = 65536 * (x2 : Int) := by rw [IntKind.wrap_u32]; omega
      have u6 : IntKind.u32.wrap (16777216 * (x3 : Int)) = 16777216 * (x3 : Int) := by rw [IntKind.wrap_u32]; omega
      have u7 : IntKind.u32.wrap ((x0 : Int) + 256 * (x1 : Int)) = (x0 : Int) + 256 * (x1 : Int) := by rw [IntKind.wrap_u32]; omega
      have u8 : IntKind.u32.wrap ((x0 : Int) + 256 * (x1 : Int) + 65536 * (x2 : Int)) = (x0 : Int) + 256 * (x1 : Int) + 65536 * (x2 : Int) := by rw [IntKind.wrap_u32]; omega
      have u9 : IntKind.u32.wrap ((x0 : Int) + 256 * (x1 : Int) + 65536 * (x2 : Int) + 16777216 * (x3 : Int)) = (v : Int) := by rw [IntKind.wrap_u32]; have := HV.out; omega
      have e1 : IntKind.i64.wrap (4 * (k : Int)) = 4 * (k : Int) := IntWalk.i64_in _ (by omega)
      have e2 : IntKind.i64.wrap (4 * (k : Int) + 1) = 4 * (k : Int) + 1 := IntWalk.i64_in _ (by omega)
      have e3 : IntKind.i64.wrap (4 * (k : Int) + 2) = 4 * (k : Int) + 2 := IntWalk.i64_in _ (by omega)
      have e4 : IntKind.i64.wrap (4 * (k : Int) + 3) = 4 * (k : Int) + 3 := IntWalk.i64_in _ (by omega)
      have p1 : (4 * (k : Int)).toNat = 4 * k := by omega
      have p2 : (4 * (k : Int) + 1).toNat = 4 * k + 1 := by omega
      have p3 : (4 * (k : Int) + 2).toNat = 4 * k + 2 := by omega
      have p4 : (4 * (k : Int) + 3).toNat = 4 * k + 3 := by omega
      have r1 : (0 : Int) ≤ 4 * (k : Int) := by omega
      have r2 : 4 * (k : Int) < 32 := by omega
      have r3 : 4 * (k : Int) + 1 < 32 := by omega
      have r4 : 4 * (k : Int) + 2 < 32 := by omega
      have r5 : 4 * (k : Int) + 3 < 32 := by omega
      have r6 : (0 : Int) ≤ 4 * (k : Int) + 1 := by omega
      have r7 : (0 : Int) ≤ 4 * (k : Int) + 2 := by omega
      have r8 : (0 : Int) ≤ 4 * (k : Int) + 3 := by omega
      go_wp2_with fail
      go_region_held3 (fun w' => w'.cell? ⟨bb, off + 4 * k, none⟩ = some (.int .u8 x0) ∧ w'.cell? ⟨bb, off + (4 * k + 1), none⟩ = some (.int .u8 x1) ∧ w'.cell? ⟨bb, off + (4 * k + 2), none⟩ = some (.int .u8 x2) ∧ w'.cell? ⟨bb, off + (4 * k + 3), none⟩ = some (.int .u8 x3)) (first | go_keep | (go_split_ands; refine ⟨?_, ?_, ?_, ?_⟩ <;> (rw [z2.cell (p := ⟨bb, _, none⟩) hbb]; assumption)))
        ((refine appVr (by rfl) (.tmp 13) (.tmp 47) 66 67 _ 4 (by rfl) Try.underlying66 info_u32 rfl w.heap.size _ k (wc (upW l k)) (by rfl) (World.ownsRow.alloc (w := World.drew wr) ho _) (wr.heap.size + 1) _ 1 1 [.int .u32 v] (by rfl) (Rd.new1 wr _ _).drew (by simp [Value.oneCell']) (by unfold maxLen; omega) (by omega) (by simp; omega) ?_; intro A' c' w' z1 z2 z3 z4 z5))
      go_wp2_with fail
      refine ⟨⟨k + 1, A', c', rfl, by go_num, hlt, z4, ?_, hbel.trans (((Below.refl _ _).alloc hs _).drew.trans z2)⟩, by simp [intOf]; omega⟩
      rw [upW_succ, HVE.out]
      have : wc (upW l k ++ [(v : Int)]) = wc (upW l k) ++ [.int .u32 v] := by simp [wc]
      rw [this]
      exact z1
    · have hk8 : k = 8 := by omega
      rw [hk8] at ho
      have HK := Lib.hid hk8
      obtain ⟨gw, tw, rfl, hgw2, hbk⟩ := blk_of_own ho (by omega)
      replace hbk : Blk wr gw 67 (wc (wordsOf l) ++ tw) := hbk
      clear hk8 ho
      have hW := wordsOf_words l
      obtain ⟨W, hWe⟩ : ∃ W, W = wordsOf l := ⟨_, rfl⟩
      rw [← hWe] at hbk hW
      have HW := Lib.hid hWe
      clear hWe
      have hbg : Blk wr g 67 (wc S ++ tail) := hb.below hbel hgw
      have hgr : w.grownBy wr (some g) := grown_of_below hbel _
      have hne : g ≠ gw := by omega
      have hgd : ¬ ((k : Int) < 8) := by omega
      clear hbel hr hb hs hgw hgw2
      go_wp2_with fail
      go_loopw [6] (fun i wr => OuterRelR S W tail tw g gw 67 w i wr) (fun i _ => 8 - (intOf i).toNat)
      case atStart => exact ⟨0, rfl, by omega, hbg, hbk, hgr⟩
      case round =>
        clear hbg hbk hgr
        obtain ⟨r, rfl, hr8, hbg, hbk, hgr⟩ := hrel
        by_cases hlt2 : r < 8
        · have hwo := hS.rounds W r
          have hrd : decide ((r : Int) < 8) = true := by simp; omega
          go_wp2_with fail
          go_loopw [7] (fun i wr => InnerRelR (rounds S W r) W r tail tw g gw 67 w i wr) (fun i _ => 8 - (intOf i).toNat)
          case atStart => exact ⟨0, rfl, by omega, hbg, hbk, hgr⟩
          case round =>
            clear hbg hbk hgr
            obtain ⟨j, rfl, hk8, hbg, hbk, hgr⟩ := hrel
            by_cases hlt3 : j < 8
            · obtain ⟨S', hS'⟩ : ∃ S', S' = inner (rounds S W r) W r j := ⟨_, rfl⟩
              have hw' : Words S' := by rw [hS']; exact hwo.inner W r j
              rw [← hS'] at hbg
              obtain ⟨x1, hx1⟩ : ∃ x, x = getI S' j := ⟨_, rfl⟩
              obtain ⟨x2, hx2⟩ : ∃ x, x = getI W ((j + r) % 8) := ⟨_, rfl⟩
              obtain ⟨x3, hx3⟩ : ∃ x, x = getI S' ((j + 1) % 8) := ⟨_, rfl⟩
              have hc1 : wr.cell? ⟨g, j, none⟩ = some (.int .u32 x1) := by rw [hbg.cell, hx1]; exact wc_get hw' tail hlt3
              have hc2 : wr.cell? ⟨gw, (j + r) % 8, none⟩ = some (.int .u32 x2) := by rw [hbk.cell, hx2]; exact wc_get hW tw (Nat.mod_lt _ (by omega))
              have hc3 : wr.cell? ⟨g, (j + 1) % 8, none⟩ = some (.int .u32 x3) := by rw [hbg.cell, hx3]; exact wc_get hw' tail (Nat.mod_lt _ (by omega))
              have hfr := hbg.free j
              have hrx := bits_u32_range .xor x1 x2
              have HS' := Lib.hid hS'
              have HX1 := Lib.hid hx1
              have HX2 := Lib.hid hx2
              have HX3 := Lib.hid hx3
              clear hS' hx1 hx2 hx3
              have f0 : IntKind.i64.wrap ((j : Int) + 1) = (j : Int) + 1 := IntWalk.i64_in _ (by omega)
              have f1 : ((j : Int) + 1).tmod 8 = ((j : Int) + 1) % 8 := Int.tmod_eq_emod_of_nonneg (by omega)
              have f2 : (0 : Int) ≤ ((j : Int) + 1) % 8 := by omega
              have f3 : ((j : Int) + 1) % 8 < 8 := by omega
              have f4 : (((j : Int) + 1) % 8).toNat = (j + 1) % 8 := by omega
              have f5 : IntKind.i64.wrap ((j : Int) + (r : Int)) = (j : Int) + (r : Int) := IntWalk.i64_in _ (by omega)
              have f6 : IntKind.u32.wrap ((j : Int) + (r : Int)) = (j : Int) + (r : Int) := by rw [IntKind.wrap_u32]; omega
              have f7 : ((j : Int) + (r : Int)).tmod 8 = ((j : Int) + (r : Int)) % 8 := Int.tmod_eq_emod_of_nonneg (by omega)
              have f8 : (((j : Int) + (r : Int)) % 8).toNat = (j + r) % 8 := by omega
              have f9 : (0 : Int) ≤ ((j : Int) + (r : Int)) % 8 := by omega
              have f10 : ((j : Int) + (r : Int)) % 8 < 8 := by omega
              have f13 : ((j : Int) + (r : Int)) % 8 < (k : Int) := by have := HK.out; omega
              have f11 : IntKind.i64.wrap (3 * (j : Int)) = 3 * (j : Int) := IntWalk.i64_in _ (by omega)
              have f12 : IntKind.i64.wrap (5 + 3 * (j : Int)) = 5 + 3 * (j : Int) := IntWalk.i64_in _ (by omega)
              go_wp2_with fail
              go_quiet ((go_at_call 71; exact Calls.quiet_of (turned_calls _ (5 + 3 * j) _ _ (by omega) hrx.1 hrx.2 (by omega) (by omega))))
              go_wp2_with fail
              have hmix : (rotl (bits .xor .u32 x1 x2) (5 + 3 * j) + x3 * 2246822507 + ((j : Int) + (r : Int))) % 4294967296 = mixAt S' W r j := by
                rw [HX1.out, HX2.out, HX3.out]
                rfl
              have HM := Lib.hid hmix
              clear hmix
              refine ⟨⟨j + 1, by go_num, by omega, ?_, (hbk.drewN nq).far (p := ⟨g, j, none⟩) (fun e => hne e.symm) _, grown_setCell (grown_drewN hgr nq) _ _⟩, by simp [intOf]; omega⟩
              have h1 := (hbg.drewN nq).set j (.int .u32 (mixAt S' W r j))
              rw [wc_set S' tail (by rw [hw'.1]; exact hlt3)] at h1
              rw [HM.out]
              have h2 : inner (rounds S W r) W r (j + 1) = S'.set j (mixAt S' W r j) := by rw [HS'.out]; rfl
              rw [h2]
              exact h1
            · have hk88 : j = 8 := by omega
              have HK8 := Lib.hid hk88
              have hjd : ¬ ((j : Int) < 8) := by omega
              clear hk88
              go_wp2_with fail
              refine ⟨⟨r + 1, by go_num, by omega, ?_, hbk, hgr⟩, by simp [intOf]; omega⟩
              rw [HK8.out] at hbg
              exact hbg
        · have hr88 : r = 8 := by omega
          have HR8 := Lib.hid hr88
          have hrd : ¬ ((r : Int) < 8) := by omega
          clear hr88
          go_wp2_with fail
          go_end0
          refine ⟨rfl, ?_, hgr⟩
          rw [HW.out, HR8.out] at hbg
          exact hbg
end Go.Proofs.Ytcefbhmmijmefaa
