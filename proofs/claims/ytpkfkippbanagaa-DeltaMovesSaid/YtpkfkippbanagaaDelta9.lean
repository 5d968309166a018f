/- The walks of the layer 'delta', its ninth part: the middle. Conditions: lengths below 2^20. -/
import Derived.Test.YtpkfkippbanagaaDelta8
namespace Go.Proofs.Ytpkfkippbanagaa
open Go.RowKit Go.Dol
set_option linter.unusedVariables false

def MidRel (T b m : List UInt8) (base g : Nat) (w : World) (frm i : Value) (wr : World) : Prop :=
  ∃ (k f : Nat) (l : List UInt8), frm = .int .i64 f ∧ i = .int .i64 k ∧ f ≤ k ∧ k ≤ m.length ∧ Hid (T = l ++ midG b m k f) ∧ Wr wr base g l ∧ w.grownBy wr (some g)

set_option maxRecDepth 100000 in
set_option maxHeartbeats 4000000 in
theorem middle_calls (base g : Nat) (l : List UInt8) (A : Option Addr) (b : List UInt8) (c : Nat) (A2 : Option Addr) (m : List UInt8) (c2 : Nat) (w : World) (h : Wr w base g l) (hr : Rd w base 1 A b.length (bc b)) (hr2 : Rd w base 1 A2 m.length (bc m))
    (hb : b.length ≤ 1048576) (hm : m.length ≤ 1048576) (hl : l.length ≤ 1048595) (hc : b.length ≤ c) (hcm : c ≤ maxLen) (hc2 : m.length ≤ c2) (hcm2 : c2 ≤ maxLen) :
    Calls Try.prog 37 #[.pointer (some ⟨g, 0, none⟩), .slice A b.length c, .slice A2 m.length c2] w (RetW w base g (l ++ midL b m)) := by
  have hcost : Hid ((midL b m).length ≤ 1048579) := by unfold Hid midL; have := mid_cost hb hm m.length 0 0 (Nat.le_refl _) (Nat.zero_le _); omega
  obtain ⟨T, hT⟩ : ∃ T, T = l ++ midL b m := ⟨_, rfl⟩
  have hTl : Hid (T.length ≤ 2097174) := by unfold Hid; rw [hT, List.length_append]; have := hcost.out; omega
  rw [← hT]
  have HT : Hid (T = l ++ midG b m 0 0) := by unfold Hid; rw [hT, midL_is]
  clear hT hcost
  have hgl : base ≤ g ∧ g < w.heap.size := by obtain ⟨_, _, h1, _, h2, _⟩ := h; exact ⟨h2, h1.lt⟩
  go_enter Try.func37, Try.ntmps37
  go_wp2_with fail
  refine (index_calls A b c w (hr.more (by omega)) (by omega) hc hcm).mono ?_
  rintro e w1 ⟨nb, al, rfl, hmap, hidx, hb1⟩
  have hs1 := hb1.size
  have h1 := h.belowW hb1
  have hr1 := hr.below (hb1.mono (by omega))
  have hr21 := hr2.below (hb1.mono (by omega))
  have hgr1 := grown_of_below hb1 (some g)
  clear h hb1 hr hr2
  obtain ⟨B, hB⟩ : ∃ B, B = w.heap.size := ⟨_, rfl⟩
  rw [← hB] at hmap ⊢
  have hBg : some B ≠ some g := by intro e; injection e; omega
  have HB := Lib.hid hB
  clear hB
  go_wp2_with fail
  go_loopw [7, 8] (fun frm i wr => MidRel T b m base g w1 frm i wr) (fun _ i _ => m.length - (intOf i).toNat)
  case atStart => exact ⟨0, 0, l, rfl, rfl, Nat.le_refl _, Nat.zero_le _, HT, h1, World.grownBy.refl w1 _⟩
  case round =>
    clear h1 HT hl
    obtain ⟨k, f, l, rfl, rfl, hfk, hkm, hT, hw, hgr⟩ := hrel
    have hll : l.length ≤ 2097174 := by have := hTl.out; have h := congrArg List.length hT.out; rw [List.length_append] at h; omega
    have hs := hgr.size
    have hrb : Rd wr base 1 A b.length (bc b) := hr1.grown hgr (by omega) (fun q hq => by injection hq; omega)
    have hrm : Rd wr base 1 A2 m.length (bc m) := hr21.grown hgr (by omega) (fun q hq => by injection hq; omega)
    have hmp := hmap.grown hgr hBg
    have f1 : IntKind.i64.wrap ((k : Int) + 16) = (k : Int) + 16 := IntWalk.i64_in _ (by omega)
    by_cases hk16 : k + 16 ≤ m.length
    · have d1 : decide ((k : Int) + 16 ≤ (m.length : Int)) = true := by simp; omega
      have d1' : (k : Int) + 16 ≤ (m.length : Int) := by omega
      obtain ⟨x, Ax, cx, ex, jx, jx', ⟨rx, kx, kx'⟩, _, _, _, sx⟩ := sl_mid (lo := k) (hi := k + 16) (k : Int) ((k : Int) + 16) rfl (by omega) hrm (by omega) hk16 hc2 hcm2
      have hx16 : x.length = 16 := by omega
      have harr : (Instr.arrayAt 60 (.slice Ax x.length cx)).run Try.prog wr = .ok (.pointer Ax) wr := run_arrayAt wr _ _ 16 _ _ _ Try.underlying60 (by omega)
      have ex' : Hid (x = (m.drop k).take 16) := by unfold Hid; rw [ex.out, show k + 16 - k = 16 by omega]
      have HX := Lib.hid hx16
      obtain ⟨kl, hkl⟩ := block_key x hx16
      clear hx16 ex
      rcases hmp.look block_law Try.underlying56 (int_zero wr) hkl true with ⟨hmiss, hlk⟩ | ⟨v, hhit, hlk⟩
      · have hlk' : (Instr.lookup 56 (.map (some B)) (.agg (bc x).toArray) true).run Try.prog wr = .ok (.tuple #[.int .i64 0, .bool false]) wr := hlk
        have hT' : Hid (T = l ++ midG b m (k + 1) f) := by
          unfold Hid
          rw [hT.out, midG_next (by omega) (hidx.out.1.miss hidx.out.2.2 (by rw [← ex'.out]; exact hmiss))]
        clear hlk hmiss
        go_wp2_with (refine wpList_load_rd rfl 60 _ rfl Ax rfl _ x.length (bc x) _ rx (by have := HX.out; omega) Try.underlying60 rfl (by rw [HX.out]; kernel_rfl) ?_)
        exact ⟨⟨k + 1, f, l, rfl, by go_num, by omega, by omega, hT', hw, hgr⟩, by simp [intOf]; omega⟩
      · obtain ⟨kk, hv, hat⟩ : ∃ kk : Nat, v = .int .i64 (kk : Nat) ∧ blockAt b (m.drop k) = some kk := hidx.out.1.hit hidx.out.2.1 (by rw [List.length_drop]; omega) (by rw [← ex'.out]; exact hhit)
        subst hv
        have hlk' : (Instr.lookup 56 (.map (some B)) (.agg (bc x).toArray) true).run Try.prog wr = .ok (.tuple #[.int .i64 (kk : Nat), .bool true]) wr := hlk
        have hsp := blockAt_spec hat
        have hT' : Hid (T = l ++ (runB ((m.drop f).take (k - f)) ++ (copyOf (begins (b.drop kk) (m.drop k)) kk ++ midG b m (k + begins (b.drop kk) (m.drop k)) (k + begins (b.drop kk) (m.drop k))))) := by
          unfold Hid; rw [hT.out, midG_copy (by omega) hat]
        clear hlk hhit hat
        obtain ⟨y, Ay, cy, ey, jy, jy', ⟨ry, ky, ky'⟩, _, _, _, sy⟩ := sl_from (k := kk) (kk : Int) rfl hrb (by omega) hc hcm
        obtain ⟨z, Az, cz, ez, jz, jz', ⟨rz, kz, kz'⟩, _, _, _, sz⟩ := sl_from (k := k) (k : Int) rfl hrm hkm hc2 hcm2
        rw [← ey.out, ← ez.out] at hT' hsp
        go_wp2_with (refine wpList_load_rd rfl 60 _ rfl Ax rfl _ x.length (bc x) _ rx (by have := HX.out; omega) Try.underlying60 rfl (by rw [HX.out]; kernel_rfl) ?_)
        go_quiet ((go_at_call 34; exact Calls.quiet_of (alike_calls Ay y cy Az z cz _ base base (ry.drewN _) (rz.drewN _) (by omega) (by omega))))
        have hgl2 := begins_le y z
        obtain ⟨n, hn⟩ : ∃ n, n = begins y z := ⟨_, rfl⟩
        rw [← hn] at hgl2 hT' hsp ⊢
        obtain ⟨w7, hw7⟩ : ∃ v, v = wr.drewN nq := ⟨_, rfl⟩
        rw [← hw7]
        have hw7' : Wr w7 base g l := by rw [hw7]; exact hw.belowW ((Below.refl _ _).drewN' nq)
        have hgr7 : w1.grownBy w7 (some g) := by rw [hw7]; exact grown_drewN hgr nq
        have hrm7 : Rd w7 base 1 A2 m.length (bc m) := by rw [hw7]; exact hrm.drewN nq
        have hs7 := hgr7.size
        clear hw7 hw hgr hs hrm hrb sx sy sz harr rx ry rz hn ey ez hmp
        obtain ⟨q, Aq, cq, eq, jq, jq', ⟨rq, kq, kq'⟩, _, _, _, sq⟩ := sl_mid (lo := f) (hi := k) (f : Int) (k : Int) rfl rfl hrm7 hfk hkm hc2 hcm2
        rw [← eq.out] at hT'
        go_wp2_with fail
        refine (insert_calls base g l Aq q cq w7 hw7' (rq.more (by omega)) (by omega)).mono ?_
        rintro e w8 ⟨rfl, ⟨l8, e8, hw8⟩, hg8⟩
        have hl8 : l8.length ≤ 2097174 := by
          have h := congrArg List.length hT'.out
          have h8 := congrArg List.length e8.out
          have := hTl.out
          simp only [List.length_append] at h h8
          omega
        clear sq rq eq hw7' hrm7
        go_wp2_with fail
        refine (copied_calls base g n kk l8 w8 hw8 (by omega) (by omega) (by omega)).mono ?_
        rintro e w9 ⟨rfl, ⟨l9, e9, hw9⟩, hg9⟩
        go_wp2_with fail
        refine ⟨⟨k + n, k + n, l9, by go_num, by go_num, Nat.le_refl _, by omega, ?_, hw9, grown_step hgr7 (grown_step hg8 hg9)⟩, by simp [intOf]; omega⟩
        unfold Hid
        rw [hT'.out, e9.out, e8.out]
        simp only [List.append_assoc]
    · have d1 : decide ((k : Int) + 16 ≤ (m.length : Int)) = false := by simp; omega
      have d1' : ¬ (k : Int) + 16 ≤ (m.length : Int) := by omega
      obtain ⟨x, Ax, cx, ex, jx, jx', ⟨rx, kx, kx'⟩, _, _, _, sx⟩ := sl_from (k := f) (f : Int) rfl hrm (by omega) hc2 hcm2
      have hT' : Hid (T = l ++ runB x) := by unfold Hid; rw [hT.out, midG_short _ _ _ (Nat.le_refl _) (by omega), ex.out]
      clear hT ex
      go_wp2_with fail
      refine (insert_calls base g l Ax x cx wr hw (rx.more (by omega)) (by omega)).mono ?_
      rintro e w8 ⟨rfl, ⟨l8, e8, hw8⟩, hg8⟩
      go_wp2_with fail
      go_end0
      exact ⟨rfl, ⟨l8, by unfold Hid; rw [hT'.out]; exact e8.out, hw8⟩, grown_step hgr1 (grown_step hgr hg8)⟩
end Go.Proofs.Ytpkfkippbanagaa
