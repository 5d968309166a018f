/- The walks of the layer 'press', its tenth part: the longest copy is sought. Conditions: lengths below 2^20. -/
import Derived.Test.YtjikoeokmdnciaaPressFind
namespace Go.Proofs.Ytjikoeokmdnciaa
open Go.RowKit Go.Dol
set_option linter.unusedVariables false
attribute [local irreducible] wpStill

theorem key_one {al : List (Value × Value)} {k u v : Value} (h : (al.map Prod.fst).Nodup) (h1 : (k, u) ∈ al) (h2 : (k, v) ∈ al) : u = v := by
  induction al with
  | nil => cases h1
  | cons p ps ih =>
    rw [List.map_cons, List.nodup_cons] at h
    rcases List.mem_cons.1 h1 with e1 | h1 <;> rcases List.mem_cons.1 h2 with e2 | h2
    · rw [← e1] at e2; injection e2 with _ e2; exact e2.symm
    · exact absurd (List.mem_map.2 ⟨_, h2, by rw [← e1]⟩) h.1
    · exact absurd (List.mem_map.2 ⟨_, h1, by rw [← e2]⟩) h.1
    · exact ih h.2 h1 h2
theorem look_all {w : World} {B : Nat} {al : List (Value × Value)} (h : MapL Try.prog 59 w B al) {K : List UInt8} (hK : K.length = 4) :
    ∃ v, (((∀ p ∈ al, p.1 ≠ kv K) ∧ v = .slice none 0 0) ∨ (kv K, v) ∈ al) ∧ ∀ q, (Instr.lookup 45 (.map (some B)) (kv K) false).run Try.prog (w.drewN q) = .ok v (w.drewN q) := by
  obtain ⟨kl, hkl⟩ := four_key K hK
  rcases h.look four_law Try.underlying45 (ints_zero w) hkl false with ⟨h1, h2⟩ | ⟨v, h1, h2⟩
  · refine ⟨.slice none 0 0, .inl ⟨h1, rfl⟩, fun q => ?_⟩
    rcases (h.drewN q).look four_law Try.underlying45 (ints_zero _) hkl false with ⟨_, h3⟩ | ⟨v, h3, _⟩
    · exact h3
    · exact absurd rfl (h1 _ h3)
  · refine ⟨v, .inr h1, fun q => ?_⟩
    rcases (h.drewN q).look four_law Try.underlying45 (ints_zero _) hkl false with ⟨h3, _⟩ | ⟨u, h3, h4⟩
    · exact absurd rfl (h3 _ h1)
    · rw [key_one h.nodup h1 h3]; exact h4
def LgRel (b : List UInt8) (i : Nat) (w : World) (best back j : Value) (wr : World) : Prop :=
  ∃ m d q x y : Nat, best = .int .i64 (x : Nat) ∧ back = .int .i64 (y : Nat) ∧ j = .int .i64 ((m : Int) - 1) ∧ Hid (lngD b i d = (x, y)) ∧ LgInv b i (posOf b i ((b.drop i).take 4)) m d ∧ Hid (wr = w.drewN q)

set_option maxRecDepth 100000 in
set_option maxHeartbeats 4000000 in
theorem longest_calls (base fb : Nat) (A : Option Addr) (b : List UInt8) (c n i : Nat) (w : World) (hf : Fin w base fb A b c n) (hr : Rd w base 1 A b.length (bc b)) (hb : b.length ≤ 1048576) (hc : b.length ≤ c) (hni : n ≤ i) (hi : i ≤ b.length) :
    Calls Try.prog 34 #[.pointer (some ⟨fb, 0, none⟩), .int .i64 i] w fun e w' => e = .returned (.tuple #[.int .i64 ((lng b i).1 : Nat), .int .i64 ((lng b i).2 : Nat)]) ∧ (∃ n', n' ≤ i ∧ Fin w' base fb A b c n') ∧ Bk 5 base w w' := by
  have hf0 := hf
  have f1 : IntKind.i64.wrap ((i : Int) + 4) = (i : Int) + 4 := IntWalk.i64_in _ (by omega)
  have hz0 : base ≤ w.heap.size := by obtain ⟨B, al, h1, _, _, h4, _⟩ := hf; have := h1.lt; omega
  have c0 : w.cell? ⟨fb, 0, none⟩ = some (.slice A b.length c) := by obtain ⟨B, al, h1, _⟩ := hf; rw [h1.cell]; rfl
  have HF := Lib.hid hf
  clear hf hf0
  by_cases h4 : i + 4 ≤ b.length
  · have d1 : decide ((b.length : Int) < (i : Int) + 4) = false := by simp; omega
    have d1' : ¬ ((b.length : Int) < (i : Int) + 4) := by omega
    go_enter Try.func34, Try.ntmps34
    go_wp2_with fail
    refine (know_calls base fb A b c n i w HF.out hr hb hc hni h4).mono ?_
    rintro e w1 ⟨rfl, hf1, hb1⟩
    have HF1 := Lib.hid hf1
    obtain ⟨B, al, hblk, hmap, hgrp, hbf, hbB⟩ := hf1
    clear HF c0
    have hs1 := hb1.size
    have hr1 : Rd w1 base 1 A b.length (bc b) := hr.below hb1.below
    have hrq : Rd w1 w1.heap.size 1 A b.length (bc b) := hr1.more (by omega)
    have c0 : w1.cell? ⟨fb, 0, none⟩ = some (.slice A b.length c) := by rw [hblk.cell]; rfl
    have c1 : w1.cell? ⟨fb, 1, none⟩ = some (.map (some B)) := by rw [hblk.cell]; rfl
    have hlb := hblk.lt
    have hK4 := take_four (b := b) (i := i) (by omega)
    obtain ⟨x0, hx0⟩ : ∃ x, x = b[i] := ⟨_, rfl⟩
    obtain ⟨x1, hx1⟩ : ∃ x, x = b[i + 1] := ⟨_, rfl⟩
    obtain ⟨x2, hx2⟩ : ∃ x, x = b[i + 2] := ⟨_, rfl⟩
    obtain ⟨x3, hx3⟩ : ∃ x, x = b[i + 3] := ⟨_, rfl⟩
    rw [← hx0, ← hx1, ← hx2, ← hx3] at hK4
    have HK4 := Lib.hid hK4
    clear hx0 hx1 hx2 hx3 hK4
    go_wp2_with fail
    go_cut [8] (fun v wx => (((∀ p ∈ al, p.1 ≠ kv [x0, x1, x2, x3]) ∧ v = .slice none 0 0) ∨ (kv [x0, x1, x2, x3], v) ∈ al) ∧ Below w1.heap.size w1 wx)
    case first =>
      go_region_with
        ((go_at_call 43; refine (at_lit A b c i _ x0 x1 x2 x3 HK4 hrq.drew (by omega) hc (by omega)).mono ?_; rintro e w5 ⟨rfl, hb5⟩; have hb5' : Below w1.heap.size w1 w5 := ((Below.refl w1.heap.size w1).drew.trans hb5); have c1b : w5.cell? ⟨fb, 1, none⟩ = some (.map (some B)) := (by rw [(hblk.below hb5' hlb).cell]; rfl); have c1c : w5.drew.cell? ⟨fb, 1, none⟩ = some (.map (some B)) := (c1b); clear hb5; obtain ⟨v, hv, hlook⟩ := look_all (hmap.belowW hb5') (K := [x0, x1, x2, x3]) rfl; have hlk0 : (Instr.lookup 45 (.map (some B)) (.agg #[.int .u8 x0.toNat, .int .u8 x1.toNat, .int .u8 x2.toNat, .int .u8 x3.toNat]) false).run Try.prog w5 = .ok v w5 := (hlook 0); have hlk1 : (Instr.lookup 45 (.map (some B)) (.agg #[.int .u8 x0.toNat, .int .u8 x1.toNat, .int .u8 x2.toNat, .int .u8 x3.toNat]) false).run Try.prog w5.drew = .ok v w5.drew := (hlook 1); have HV := Lib.hid hv; clear hv hlook))
      all_goals
        go_wp2_with fail
        go_meet
        first
          | exact ⟨HV.out, hb5'⟩
          | exact ⟨HV.out, hb5'.drew⟩
    case rest =>
      have hcb := hcut.2
      have hor := hcut.1
      clear hcut c0 c1 hrq
      have hblkc := hblk.below hcb hlb
      have hmapc := hmap.belowW hcb
      have hgrpc := hgrp.belowW hcb
      have hbc : Bk 5 base w wc := hb1.transB hcb (by omega)
      have hown := hgrpc.at (K := [x0, x1, x2, x3]) rfl hor
      obtain ⟨A2, c2, rfl, hN1, hN2⟩ := own_form hown
      have hrz := Rd.of_own hown
      have hinv := LgInv.start b i
      rw [HK4.out] at hinv
      obtain ⟨N, hN⟩ : ∃ N, N = (posOf b i [x0, x1, x2, x3]).length := ⟨_, rfl⟩
      have hNi : N ≤ i := by rw [hN]; exact posOf_length b i _
      rw [← hN] at hrz hown hN1 hinv
      have HNN := Lib.hid hN
      have HINV := Lib.hid hinv
      have HFc : Hid (Fin wc base fb A b c i) := ⟨B, al, hblkc, hmapc, hgrpc, hbf, hbB⟩
      have hrc : Rd wc base 1 A b.length (bc b) := hr1.below (hcb.mono (by omega))
      have fN : IntKind.i64.wrap ((N : Int) - 1) = (N : Int) - 1 := IntWalk.i64_in _ (by omega)
      rw [← hN]
      clear hown hor hN hinv hblk hmap hgrp hb1 hr1 HF1 hs1 hlb hgrpc hmapc
      go_wp2_with fail
      go_loopw [6, 7, 9] (fun best back j wr => LgRel b i wc best back j wr) (fun _ _ j _ => (intOf j + 1).toNat)
      case atStart => exact ⟨N, 0, 0, 0, 0, rfl, rfl, rfl, by rw [lngD_zero]; rfl, by rw [HK4.out]; exact HINV.out, rfl⟩
      case round =>
        obtain ⟨m, d, q, x, y, rfl, rfl, rfl, hxy, hlg, hwr⟩ := hrel
        have hxb := (lngD_bounds b i d).1
        rw [hxy.out] at hxb
        have HLG := Lib.hid hlg
        clear hlg HINV
        have hFw : Hid (Fin wr base fb A b c i ∧ Bk 5 base w wr) := by
          unfold Hid
          rw [hwr.out]
          obtain ⟨B, al, k1, k2, k3, k4⟩ := HFc.out
          exact ⟨⟨B, al, k1.drewN q, k2.drewN q, k3.drewN q, k4⟩, hbc.drewN' q⟩
        rcases m with _ | m
        · have hfin : Hid (lng b i = (x, y)) := by unfold Hid; rw [← HLG.out.end0 h4, hxy.out]
          go_wp2_with fail
          go_ret2
          rw [hfin.out]
          exact ⟨rfl, ⟨i, Nat.le_refl _, hFw.out.1⟩, hFw.out.2⟩
        · have hjm : ((m + 1 : Nat) : Int) - 1 = (m : Int) := by omega
          rw [hjm]
          have hml : m < (posOf b i ((b.drop i).take 4)).length := HLG.out.1
          obtain ⟨p, hp⟩ : ∃ p, (posOf b i ((b.drop i).take 4))[m]? = some p := ⟨_, List.getElem?_eq_getElem hml⟩
          have hpi : p < i := (posOf_mem.1 (List.mem_of_getElem? hp)).1
          have hmN : m < N := by have := HNN.out; rw [HK4.out] at hml; omega
          have hrzw : Rd wr wc.heap.size 1 A2 N (ic (posOf b i [x0, x1, x2, x3])) := by rw [hwr.out]; exact hrz.drewN q
          have hpz : (ic (posOf b i [x0, x1, x2, x3]))[m]? = some (.int .i64 (p : Nat)) := by
            rw [HK4.out] at hp
            unfold ic
            rw [List.getElem?_map, hp]
            rfl
          obtain ⟨bb, off, rfl, hbb, hcell⟩ := hrzw.at_ (by omega)
          have c1 := hcell m _ hpz
          have HP := Lib.hid hp
          have d0 : (0 : Int) ≤ (m : Int) := by omega
          have d0' : (m : Int) < (N : Int) := by omega
          have fp : IntKind.i64.wrap ((i : Int) - (p : Int)) = (i : Int) - (p : Int) := IntWalk.i64_in _ (by omega)
          have fm : IntKind.i64.wrap ((m : Int) - 1) = (m : Int) - 1 := IntWalk.i64_in _ (by omega)
          have hrw : Rd wr base 1 A b.length (bc b) := by rw [hwr.out]; exact hrc.drewN q
          have hblkw : Blk wr fb 47 [.slice A b.length c, .map (some B), .int .i64 (i : Nat)] := by rw [hwr.out]; exact hblkc.drewN q
          clear hcell hpz hp hml hrzw hjm
          by_cases hw : i - p ≤ 4096
          · have dw : decide ((i : Int) - (p : Int) ≤ 4096) = true := by simp; omega
            have dw' : (i : Int) - (p : Int) ≤ 4096 := by omega
            by_cases hx : x < 259
            · have dx : decide ((x : Int) < 259) = true := by simp; omega
              have dx' : (x : Int) < 259 := by omega
              have hst := HLG.out.step h4 HP.out hw
              rw [hxy.out] at hst
              obtain ⟨g, hg⟩ : ∃ g, g = alikeN b p i := ⟨_, rfl⟩
              rw [← hg] at hst
              have HST := Lib.hid hst
              have HG := Lib.hid hg
              clear hst hg
              go_wp2_with fail
              refine (alike_calls fb (.map (some B)) (.int .i64 (i : Nat)) A b c p i wr base hblkw hrw (by omega) hpi hi).mono ?_
              rintro e w2 ⟨rfl, q2, hw2⟩
              have hw2' : Hid (w2 = wc.drewN (q + q2)) := by unfold Hid; rw [hw2, hwr.out, World.drewN_drewN]
              have c1' : w2.cell? ⟨bb, off + m, none⟩ = some (.int .i64 (p : Nat)) := by rw [hw2]; exact c1
              rw [← HG.out]
              clear hw2 c1 hblkw hrw
              by_cases hxg : x < g
              · have dg : decide ((x : Int) < (g : Int)) = true := by simp; omega
                have dg' : (x : Int) < (g : Int) := by omega
                go_wp2_with fail
                go_quiet (fail)
                go_wp2_with fail
                refine ⟨⟨m, i - p, q + q2 + nq, g, i - p, rfl, congrArg (Value.int IntKind.i64) (by omega), rfl, by unfold Hid; rw [HST.out.2.2, if_pos hxg], HST.out.1, ?_⟩, by simp [intOf]⟩
                unfold Hid; rw [hw2'.out, World.drewN_drewN]
              · have dg : decide ((x : Int) < (g : Int)) = false := by simp; omega
                have dg' : ¬ (x : Int) < (g : Int) := by omega
                go_wp2_with fail
                exact ⟨⟨m, i - p, q + q2, x, y, rfl, rfl, rfl, by unfold Hid; rw [HST.out.2.2, if_neg hxg], HST.out.1, hw2'⟩, by simp [intOf]⟩
            · have dx : decide ((x : Int) < 259) = false := by simp; omega
              have dx' : ¬ (x : Int) < 259 := by omega
              have hfin : Hid (lng b i = (x, y)) := by unfold Hid; rw [← HLG.out.endF (by rw [hxy.out]; show x = 259; omega), hxy.out]
              go_wp2_with fail
              go_ret2
              rw [hfin.out]
              exact ⟨rfl, ⟨i, Nat.le_refl _, hFw.out.1⟩, hFw.out.2⟩
          · have dw : decide ((i : Int) - (p : Int) ≤ 4096) = false := by simp; omega
            have dw' : ¬ (i : Int) - (p : Int) ≤ 4096 := by omega
            have hfin : Hid (lng b i = (x, y)) := by unfold Hid; rw [← HLG.out.endW h4 HP.out (by omega), hxy.out]
            go_wp2_with fail
            go_ret2
            rw [hfin.out]
            exact ⟨rfl, ⟨i, Nat.le_refl _, hFw.out.1⟩, hFw.out.2⟩
  · have d1 : decide ((b.length : Int) < (i : Int) + 4) = true := by simp; omega
    have d1' : (b.length : Int) < (i : Int) + 4 := by omega
    go_enter Try.func34, Try.ntmps34
    go_wp2_with fail
    go_ret2
    rw [lng_end (by omega)]
    exact ⟨rfl, ⟨n, hni, HF.out⟩, Bk.refl _ _ _⟩
end Go.Proofs.Ytjikoeokmdnciaa
