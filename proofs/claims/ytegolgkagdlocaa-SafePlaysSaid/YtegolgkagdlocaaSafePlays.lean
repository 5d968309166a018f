/- The walk of the law SafePlays. Conditions: at most 3,518,437,208,780 files, 2^47 commands; names and bytes of each below 2^47. -/
import Derived.Test.YtegolgkagdlocaaRSave
import Derived.Test.YtegolgkagdlocaaSaveNil
import Derived.Test.YtegolgkagdlocaaOpS
import Derived.Test.YtegolgkagdlocaaTheirs5
import Derived.Test.YtegolgkagdlocaaSafe7
import Derived.Test.YtegolgkagdlocaaSafe8
import Derived.Test.YtegolgkagdlocaaLoadOk
import Derived.Test.YtegolgkagdlocaaBoth
import Derived.Test.YtegolgkagdlocaaFilSame
import Derived.Deep.CutBlock
import Derived.Deep.DeepCutAuto
namespace Go.Dol
open Go.RowKit
set_option linter.unusedVariables false
/-- A command of 'safe'. -/
def safeD (q : Int) (n : ByteArray) (b : List UInt8) (k : Int) (D : Dk) : Int × Dk :=
  if q = 3 then appD D n b else if q = 4 then remD D n else if q = 5 then sweepD D else if q = 6 then cutD D k else if q = 7 then (0, onD D) else saveD D n b
/-- So many files, of so many bytes, behind so many commands. -/
abbrev OkT (k : Nat) (D : Dk) : Prop := OkG (3518437208780 + k) (140737488351232 + 64 * k) D
theorem OkT.safe {k : Nat} {D : Dk} (h : OkT k D) (q : Int) {n : ByteArray} {b : List UInt8} {j : Int} (hb : b.length ≤ 140737488351232) (hj : j ≤ 9223372036854775807) : OkT (k + 1) (safeD q n b j D).2 := by
  have h1 : OkT (k + 1) D := h.mono (by omega) (by omega)
  unfold safeD
  split
  · by_cases hc : 64 < b.length
    · unfold appD
      rw [if_pos (.inl hc)]
      exact h1
    · refine h1.app n b (fun _ => by have := h.len; omega) ?_
      cases hl : lookF D.l n with
      | none => rw [Option.getD_none, List.nil_append]; omega
      | some c => have := h.look hl; rw [Option.getD_some, List.length_append]; omega
  split
  · exact h1.rem n
  split
  · exact h1.sweepL _
  split
  · exact h1.cut hj
  split
  · exact h1.on
  · exact h1.save n b (by have := h.len; omega) (by omega)
end Go.Dol
namespace Go.Proofs.Ytegolgkagdlocaa
open Go.RowKit Go.Dol
set_option linter.unusedVariables false
section
set_option maxRecDepth 100000 in
set_option maxHeartbeats 800000 in
/-- What a save needs, at any number. -/
theorem NeedW_calls (n : ByteArray) (k : Int) (w : World) (hn : n.size ≤ 140737488355328) :
    Calls Try.prog 14 #[.string n, .int .i64 k] w fun e w' => e = .returned (.int .i64 (IntKind.i64.wrap (16 + ((n.size : Int) + 1) + max k 0))) ∧ w' = w := by
  have f1 : IntKind.i64.wrap (16 + ((n.size : Int) + 1)) = 16 + ((n.size : Int) + 1) := IntWalk.i64_in _ (by omega)
  obtain ⟨v, hv⟩ : ∃ v, IntKind.i64.wrap (16 + ((n.size : Int) + 1) + max k 0) = v := ⟨_, rfl⟩
  rw [hv]
  go_enter Try.func14, Try.ntmps14
  go_wp2_with fail
  go_ret
  exact ⟨rfl, rfl⟩
set_option maxRecDepth 100000 in
set_option maxHeartbeats 800000 in
theorem refNeedW_calls (n : ByteArray) (k : Int) (w : World) (hn : n.size ≤ 140737488355328) (hk : k ≤ 4611686018427387904) :
    Calls Try.prog 33 #[.string n, .int .i64 k] w fun e w' => e = .returned (.int .i64 (16 + ((n.size : Int) + 1) + max k 0)) ∧ w' = w := by
  have f1 : IntKind.i64.wrap (16 + (n.size : Int)) = 16 + (n.size : Int) := IntWalk.i64_in _ (by omega)
  have f2 : IntKind.i64.wrap (16 + (n.size : Int) + 1) = 16 + (n.size : Int) + 1 := IntWalk.i64_in _ (by omega)
  have f3 : IntKind.i64.wrap (16 + (n.size : Int) + 1 + max k 0) = 16 + ((n.size : Int) + 1) + max k 0 := by rw [IntWalk.i64_in _ (by omega)]; omega
  go_enter Try.func33, Try.ntmps33
  go_wp2_with fail
  go_ret
  exact ⟨rfl, rfl⟩
end
/-- The rounds: the two disks are alike. -/
def SpRel (s : List OpS) (g m gr : Nat) (w : World) (i : Value) (wr : World) : Prop :=
  ∃ (k : Nat) (D : Dk), i = .int .i64 k ∧ k ≤ s.length ∧ k ≤ 60 ∧ OkT k D ∧ Dsk wr g m D ∧ Rdk wr gr D ∧ Below w.heap.size w wr
set_option maxRecDepth 100000 in
set_option maxHeartbeats 16000000 in
theorem safePlays_walk (cap : Int) (A : Option Addr) (fs : List FilA) (c : Nat) (As : Option Addr) (s : List OpS) (cs : Nat) (w : World) (hcw : (Lit.int .i64 cap).wf = true) (hr : Rd w w.heap.size 2 A fs.length (fc fs)) (hR : Fls8 w w.heap.size fs) (hnl : fs.length ≤ 3518437208780) (hsm : ∀ x ∈ fs, x.n.size ≤ 140737488351232 ∧ x.b.length ≤ 140737488351232)
    (hrs : Rd w w.heap.size 4 As s.length (o4 s)) (HOx : OpS8 w w.heap.size s) (hsl : s.length ≤ 140737488355328) (hos : ∀ x ∈ s, x.a.size ≤ 140737488351232 ∧ x.l.length ≤ 140737488351232) :
    Calls Try.prog 7 #[.int .i64 cap, .slice A fs.length c, .slice As s.length cs] w fun e w' => e = .returned (.bool true) ∧ Below w.heap.size w w' := by
  clear hcw
  have hAw := awake_calls w
  obtain ⟨cap', hcap⟩ : ∃ c, bits .and .i64 cap 1048575 = c := ⟨_, rfl⟩
  have hm := mask_range cap 20 1048575 rfl (by omega)
  rw [hcap] at hm
  go_enter Try.func7, Try.ntmps7
  go_wp2_with fail
  refine hAw.mono ?_
  rintro e w1 ⟨rfl, hb1⟩
  clear hAw
  have hs1 := hb1.size
  have hBo := both_callsL cap A fs fs.length c rfl w1 ((hr.belowW hb1 (Nat.le_refl _)).more hs1) ((hR.below hb1).more hs1) (by omega) (fun x hx => by have := hsm x hx; omega) cap' hm hcap
  obtain ⟨ld, hld⟩ : ∃ ld, ld = loadD cap' (fs.map FilA.f) := ⟨_, rfl⟩
  rw [← hld] at hBo
  have HBo := Lib.hid hBo
  obtain ⟨od, ec⟩ := ld
  clear hBo hcap hr hR
  cases od with
  | none =>
    clear hld
    go_wp2_with fail
    refine HBo.out.mono ?_
    rintro e w2 ⟨rfl, hb2⟩
    have hb02 := hb1.next hb2
    go_wp2_with fail
    go_loopw [10] (fun i wr => wr = w2) (fun i _ => 0)
    case atStart => rfl
    case round =>
      obtain rfl := hrel
      go_wp2_with (first
        | (go_at_call 13; (with_reducible refine (SaveNil_calls _ (by decide) _ _ _ _).mono ?_); rintro e w9 ⟨rfl, hb9⟩)
        | (go_at_call 23; (with_reducible refine (SweepNil_calls _).mono ?_); rintro e z0 ⟨rfl, hz0⟩; obtain rfl := hz0.symm))
      go_ret
      exact ⟨rfl, hb02.next hb9⟩
  | some D0 =>
    obtain ⟨hG, _, _, _, _⟩ := loadD_okG hld.symm hnl hsm
    have hT0 : OkT 0 D0 := hG
    clear hld hG
    go_wp2_with fail
    refine HBo.out.mono ?_
    rintro e w2 ⟨g, m, gr, rfl, hA2, hR2, hg2, hm2, hgr2, hb2⟩
    have hb02 := hb1.next hb2
    have hg : w.heap.size ≤ g := by omega
    have hmm : w.heap.size ≤ m := by omega
    have hgr : w.heap.size ≤ gr := by omega
    clear hg2 hm2 hgr2 hb1 hb2 hs1 HBo
    go_wp2_with fail
    go_loopw [10] (fun i wr => SpRel s g m gr w i wr) (fun i _ => s.length - (intOf i).toNat)
    case atStart => exact ⟨0, D0, rfl, Nat.zero_le _, by omega, hT0, hA2, hR2, hb02⟩
    case round =>
      clear hA2 hR2 hb02 hT0
      obtain ⟨k, D, rfl, hk, hk60, hT, hA, hR, hb⟩ := hrel
      have hs := hb.size
      have f1 : IntKind.i64.wrap ((k : Int) + 1) = (k : Int) + 1 := IntWalk.i64_in _ (by omega)
      by_cases hlt : k < s.length
      · have hd : decide ((k : Int) < (s.length : Int)) = true := decide_eq_true (by omega)
        have hd' : (k : Int) < (s.length : Int) := by omega
        have hdn : decide (k < s.length) = true := decide_eq_true hlt
        have hk0 : (0 : Int) ≤ (k : Int) := by omega
        by_cases hlt3 : k < 60
        · have hd2 : decide ((k : Int) < 60) = true := decide_eq_true (by omega)
          have hd2n : decide (k < 60) = true := decide_eq_true hlt3
          have hK : OkW D := hT.mono (by omega) (by omega)
          obtain ⟨x, hx⟩ : ∃ x, s[k]? = some x := ⟨s[k], List.getElem?_eq_getElem hlt⟩
          have hxm := List.mem_of_getElem? hx
          have hrw := hrs.belowW hb (Nat.le_refl _)
          obtain ⟨bb, off, rfl, hbb, hcell⟩ := hrw.at_ (by omega)
          have hat := o4_at hx
          obtain ⟨⟨hxf, hxc1, hxc2⟩, _, _, x4⟩ := HOx x hxm
          obtain ⟨x1, x2⟩ := hos x hxm
          have hff0 := hxf.below hb
          have q0 : wr.cell? ⟨bb, off + k * 4, none⟩ = some (.int .i64 x.k) := hcell _ _ (hat 0 (by omega))
          have q1 : wr.cell? ⟨bb, off + k * 4 + 1, none⟩ = some (.string x.a) := hcell _ _ (hat 1 (by omega))
          have q2 : wr.cell? ⟨bb, off + k * 4 + 2, none⟩ = some (.slice x.A x.l.length x.c) := hcell _ _ (hat 2 (by omega))
          have q3 : wr.cell? ⟨bb, off + k * 4 + 3, none⟩ = some (.int .i64 x.n) := hcell _ _ (hat 3 (by omega))
          obtain ⟨xk, xa, xl, xA, xc, xn⟩ := x
          simp only at q0 q1 q2 q3 hff0 hxc1 hxc2 x1 x2 x4
          have x1m : xa.size ≤ maxLen := by unfold maxLen; omega
          have hjn : -9223372036854775808 ≤ xn ∧ xn ≤ 9223372036854775807 := by simp [Lit.wf] at x4; exact x4
          have hj := hjn.2
          obtain ⟨q, hq⟩ : ∃ q, bits .and .i64 xk 7 = q := ⟨_, rfl⟩
          have hT1 := hT.safe q (n := xa) (b := xl) (j := xn) x2 hj
          clear hx hxm hrw hcell hat hxf hrs HOx hos x4
          have hX := Blk.new wr 52 [.int .i64 xk, .string xa, .slice xA xl.length xc, .int .i64 xn]
          have hbX := (Below.refl wr.heap.size wr).alloc (Nat.le_refl _) (.cells #[.int .i64 xk, .string xa, .slice xA xl.length xc, .int .i64 xn] 52)
          obtain ⟨W0, hW0⟩ : ∃ W, W = wr.alloc (.cells #[.int .i64 xk, .string xa, .slice xA xl.length xc, .int .i64 xn] 52) := ⟨_, rfl⟩
          have hX0 : Blk W0 wr.heap.size 52 [.int .i64 xk, .string xa, .slice xA xl.length xc, .int .i64 xn] := by rw [hW0]; exact hX
          have hbX0 : Below wr.heap.size wr W0 := by rw [hW0]; exact hbX
          have hA0 := hA.below hbX0
          have hR0 := hR.below hbX0
          have hf0 := hff0.below hbX0
          have hb0 := hb.next hbX0
          have hgl := hA.lt
          have hrl := hR.lt
          have hxg : wr.heap.size ≠ g := by omega
          have hxm : wr.heap.size ≠ m := by omega
          have hxr : some wr.heap.size ≠ some gr := fun e => by injection e with e; omega
          obtain ⟨nd1, hnd1⟩ : ∃ v, v = IntKind.i64.wrap (16 + ((xa.size : Int) + 1) + max xn 0) := ⟨_, rfl⟩
          obtain ⟨mn, hmn⟩ : ∃ v, v = min xn 1099511627776 := ⟨_, rfl⟩
          obtain ⟨nd2, hnd2⟩ : ∃ v, v = 16 + ((xa.size : Int) + 1) + max mn 0 := ⟨_, rfl⟩
          have hj0 : -9223372036854775808 ≤ xn := hjn.1
          have cN1 : ∀ W, Calls Try.prog 14 #[.string xa, .int .i64 xn] W fun e w' => e = .returned (.int .i64 nd1) ∧ w' = W := by rw [hnd1]; exact fun W => NeedW_calls xa xn W (by omega)
          have hmn2 : min xn 1099511627776 = mn := hmn.symm
          have cN2 : ∀ W, Calls Try.prog 33 #[.string xa, .int .i64 mn] W fun e w' => e = .returned (.int .i64 nd2) ∧ w' = W := by rw [hnd2]; exact fun W => refNeedW_calls xa mn W (by omega) (by omega)
          have hndw : (nd1 == nd2) = true ∨ ((nd1 == nd2) = false ∧ decide (xn ≤ 1099511627776) = false) := by
            by_cases h9 : nd1 = nd2
            · exact .inl (beq_iff_eq.2 h9)
            · refine .inr ⟨beq_eq_false_iff_ne.2 h9, decide_eq_false fun h8 => h9 ?_⟩
              rw [hnd1, hnd2, hmn, IntWalk.i64_in _ (by omega)]
              omega
          have HMN := Lib.hid hmn2
          clear hX hbX hA hR hb hff0 hnd1 hnd2 hmn hmn2
          go_upto_block 2 with (fail)
          rw [← hW0]
          clear hW0
          go_cut [12, 13] (fun e f wx => ∃ (ec : Int) (D' : Dk), e = .int .i64 ec ∧ f = .int .i64 ec ∧ Hid (safeD q xa xl xn D = (ec, D')) ∧ Dsk wx g m D' ∧ Rdk wx gr D' ∧ Blk wx wr.heap.size 52 [.int .i64 xk, .string xa, .slice xA xl.length xc, .int .i64 xn] ∧ Below w.heap.size w wx)
          case first =>
            by_cases h3 : q = 3
            · obtain ⟨ec, D', hr9⟩ : ∃ ec E, appD D xa xl = (ec, E) := ⟨_, _, rfl⟩
              have hsp : Hid (safeD q xa xl xn D = (ec, D')) := by unfold Hid safeD; rw [if_pos h3, hr9]
              clear hT1
              subst h3
              have hC1 := Append_calls hA0 hK xa x1m w.heap.size xA xl xc hf0 hg
              rw [hr9] at hC1
              have HC1 := Lib.hid hC1
              have HR9 := Lib.hid hr9
              have r1 : W0.cell? ⟨wr.heap.size, 1, none⟩ = some (.string xa) := by rw [hX0.cell]; rfl
              have r2 : W0.cell? ⟨wr.heap.size, 2, none⟩ = some (.slice xA xl.length xc) := by rw [hX0.cell]; rfl
              have r3 : W0.cell? ⟨wr.heap.size, 3, none⟩ = some (.int .i64 xn) := by rw [hX0.cell]; rfl
              clear hC1 hr9
              go_wp2_with fail
              refine HC1.out.mono ?_
              rintro e w3 ⟨rfl, hA3, ht3⟩
              have hb3 := Tw.new hb0 ht3 hg hmm
              have hR1 := hR0.tw hA0 ht3
              have hX3 := Blk.tw hX0 ht3 hxg hxm
              have hf1 := hf0.tw ht3 (hA0.others hg hmm).1 (hA0.others hg hmm).2
              have p1 : w3.cell? ⟨wr.heap.size, 1, none⟩ = some (.string xa) := by rw [hX3.cell]; rfl
              have p2 : w3.cell? ⟨wr.heap.size, 2, none⟩ = some (.slice xA xl.length xc) := by rw [hX3.cell]; rfl
              have p3 : w3.cell? ⟨wr.heap.size, 3, none⟩ = some (.int .i64 xn) := by rw [hX3.cell]; rfl
              have hC2 := refAppend_calls hR1 hK xa x1m w.heap.size xA xl xc hf1 hgr
              rw [HR9.out] at hC2
              have HC2 := Lib.hid hC2
              clear hC2 r1 r2 r3
              go_wp2_with fail
              refine HC2.out.mono ?_
              rintro e w4 ⟨rfl, hR4, hg4⟩
              have hA4 := hA3.ref hR1 hg4
              have hX4 := hX3.grown hg4 hxr
              have hb4 := hb3.grown hg4 hb3.size (fun j e => by injection e with e; omega)
              clear p1 p2 p3
              go_wp2_with fail
              go_meet
              exact ⟨ec, D', rfl, rfl, hsp, hA4, hR4, hX4, hb4⟩
            by_cases h4 : q = 4
            · obtain ⟨ec, D', hr9⟩ : ∃ ec E, remD D xa = (ec, E) := ⟨_, _, rfl⟩
              have hsp : Hid (safeD q xa xl xn D = (ec, D')) := by unfold Hid safeD; rw [if_neg (by rw [h4]; decide), if_pos h4, hr9]
              clear h3 hT1
              subst h4
              have hC1 := Remove_calls hA0 hK xa x1m
              rw [hr9] at hC1
              have HC1 := Lib.hid hC1
              have HR9 := Lib.hid hr9
              have r1 : W0.cell? ⟨wr.heap.size, 1, none⟩ = some (.string xa) := by rw [hX0.cell]; rfl
              have r2 : W0.cell? ⟨wr.heap.size, 2, none⟩ = some (.slice xA xl.length xc) := by rw [hX0.cell]; rfl
              have r3 : W0.cell? ⟨wr.heap.size, 3, none⟩ = some (.int .i64 xn) := by rw [hX0.cell]; rfl
              clear hC1 hr9
              go_wp2_with fail
              refine HC1.out.mono ?_
              rintro e w3 ⟨rfl, hA3, ht3⟩
              have hb3 := Tw.new hb0 ht3 hg hmm
              have hR1 := hR0.tw hA0 ht3
              have hX3 := Blk.tw hX0 ht3 hxg hxm
              have hf1 := hf0.tw ht3 (hA0.others hg hmm).1 (hA0.others hg hmm).2
              have p1 : w3.cell? ⟨wr.heap.size, 1, none⟩ = some (.string xa) := by rw [hX3.cell]; rfl
              have p2 : w3.cell? ⟨wr.heap.size, 2, none⟩ = some (.slice xA xl.length xc) := by rw [hX3.cell]; rfl
              have p3 : w3.cell? ⟨wr.heap.size, 3, none⟩ = some (.int .i64 xn) := by rw [hX3.cell]; rfl
              have hC2 := refRemove_calls hR1 hK xa x1m (by have := hK.len; omega)
              rw [HR9.out] at hC2
              have HC2 := Lib.hid hC2
              clear hC2 r1 r2 r3
              go_wp2_with fail
              refine HC2.out.mono ?_
              rintro e w4 ⟨rfl, hR4, hg4⟩
              have hA4 := hA3.ref hR1 hg4
              have hX4 := hX3.grown hg4 hxr
              have hb4 := hb3.grown hg4 hb3.size (fun j e => by injection e with e; omega)
              clear p1 p2 p3
              go_wp2_with fail
              go_meet
              exact ⟨ec, D', rfl, rfl, hsp, hA4, hR4, hX4, hb4⟩
            by_cases h5 : q = 5
            · obtain ⟨ec, D', hr9⟩ : ∃ ec E, sweepD D = (ec, E) := ⟨_, _, rfl⟩
              have hsp : Hid (safeD q xa xl xn D = (ec, D')) := by unfold Hid safeD; rw [if_neg (by rw [h5]; decide), if_neg (by rw [h5]; decide), if_pos h5, hr9]
              clear h3 h4 hT1
              subst h5
              have hC1 := Sweep_calls hA0 hK
              rw [hr9] at hC1
              have HC1 := Lib.hid hC1
              have HR9 := Lib.hid hr9
              have r1 : W0.cell? ⟨wr.heap.size, 1, none⟩ = some (.string xa) := by rw [hX0.cell]; rfl
              have r2 : W0.cell? ⟨wr.heap.size, 2, none⟩ = some (.slice xA xl.length xc) := by rw [hX0.cell]; rfl
              have r3 : W0.cell? ⟨wr.heap.size, 3, none⟩ = some (.int .i64 xn) := by rw [hX0.cell]; rfl
              clear hC1 hr9
              go_wp2_with fail
              refine HC1.out.mono ?_
              rintro e w3 ⟨rfl, hA3, ht3⟩
              have hb3 := Tw.new hb0 ht3 hg hmm
              have hR1 := hR0.tw hA0 ht3
              have hX3 := Blk.tw hX0 ht3 hxg hxm
              have hf1 := hf0.tw ht3 (hA0.others hg hmm).1 (hA0.others hg hmm).2
              have p1 : w3.cell? ⟨wr.heap.size, 1, none⟩ = some (.string xa) := by rw [hX3.cell]; rfl
              have p2 : w3.cell? ⟨wr.heap.size, 2, none⟩ = some (.slice xA xl.length xc) := by rw [hX3.cell]; rfl
              have p3 : w3.cell? ⟨wr.heap.size, 3, none⟩ = some (.int .i64 xn) := by rw [hX3.cell]; rfl
              have hC2 := refSweep_calls hR1 hK
              rw [HR9.out] at hC2
              have HC2 := Lib.hid hC2
              clear hC2 r1 r2 r3
              go_wp2_with fail
              refine HC2.out.mono ?_
              rintro e w4 ⟨rfl, hR4, hg4⟩
              have hA4 := hA3.ref hR1 hg4
              have hX4 := hX3.grown hg4 hxr
              have hb4 := hb3.grown hg4 hb3.size (fun j e => by injection e with e; omega)
              clear p1 p2 p3
              go_wp2_with fail
              go_meet
              exact ⟨ec, D', rfl, rfl, hsp, hA4, hR4, hX4, hb4⟩
            by_cases h6 : q = 6
            · obtain ⟨ec, D', hr9⟩ : ∃ ec E, cutD D xn = (ec, E) := ⟨_, _, rfl⟩
              have hsp : Hid (safeD q xa xl xn D = (ec, D')) := by unfold Hid safeD; rw [if_neg (by rw [h6]; decide), if_neg (by rw [h6]; decide), if_neg (by rw [h6]; decide), if_pos h6, hr9]
              clear h3 h4 h5 hT1
              subst h6
              have hC1 := Cut_calls hA0 xn
              rw [hr9] at hC1
              have HC1 := Lib.hid hC1
              have HR9 := Lib.hid hr9
              have r1 : W0.cell? ⟨wr.heap.size, 1, none⟩ = some (.string xa) := by rw [hX0.cell]; rfl
              have r2 : W0.cell? ⟨wr.heap.size, 2, none⟩ = some (.slice xA xl.length xc) := by rw [hX0.cell]; rfl
              have r3 : W0.cell? ⟨wr.heap.size, 3, none⟩ = some (.int .i64 xn) := by rw [hX0.cell]; rfl
              clear hC1 hr9
              go_wp2_with fail
              refine HC1.out.mono ?_
              rintro e w3 ⟨rfl, hA3, ht3⟩
              have hb3 := Tw.new hb0 ht3 hg hmm
              have hR1 := hR0.tw hA0 ht3
              have hX3 := Blk.tw hX0 ht3 hxg hxm
              have hf1 := hf0.tw ht3 (hA0.others hg hmm).1 (hA0.others hg hmm).2
              have p1 : w3.cell? ⟨wr.heap.size, 1, none⟩ = some (.string xa) := by rw [hX3.cell]; rfl
              have p2 : w3.cell? ⟨wr.heap.size, 2, none⟩ = some (.slice xA xl.length xc) := by rw [hX3.cell]; rfl
              have p3 : w3.cell? ⟨wr.heap.size, 3, none⟩ = some (.int .i64 xn) := by rw [hX3.cell]; rfl
              have hC2 := refCut_calls hR1 xn
              rw [HR9.out] at hC2
              have HC2 := Lib.hid hC2
              clear hC2 r1 r2 r3
              go_wp2_with fail
              refine HC2.out.mono ?_
              rintro e w4 ⟨rfl, hR4, hg4⟩
              have hA4 := hA3.ref hR1 hg4
              have hX4 := hX3.grown hg4 hxr
              have hb4 := hb3.grown hg4 hb3.size (fun j e => by injection e with e; omega)
              clear p1 p2 p3
              go_wp2_with fail
              go_meet
              exact ⟨ec, D', rfl, rfl, hsp, hA4, hR4, hX4, hb4⟩
            by_cases h7 : q = 7
            · obtain ⟨ec, D', hr9⟩ : ∃ ec E, ((0 : Int), onD D) = (ec, E) := ⟨_, _, rfl⟩
              have hsp : Hid (safeD q xa xl xn D = (ec, D')) := by unfold Hid safeD; rw [if_neg (by rw [h7]; decide), if_neg (by rw [h7]; decide), if_neg (by rw [h7]; decide), if_neg (by rw [h7]; decide), if_pos h7, hr9]
              clear h3 h4 h5 h6 hT1
              subst h7
              have hC1 := On_calls hA0
              have hec : ec = 0 ∧ onD D = D' := by injection hr9 with h1 h2; exact ⟨h1.symm, h2⟩
              obtain ⟨rfl, hDn⟩ := hec
              rw [hDn] at hC1
              have HDn := Lib.hid hDn
              clear hDn
              have HC1 := Lib.hid hC1
              have HR9 := Lib.hid hr9
              have r1 : W0.cell? ⟨wr.heap.size, 1, none⟩ = some (.string xa) := by rw [hX0.cell]; rfl
              have r2 : W0.cell? ⟨wr.heap.size, 2, none⟩ = some (.slice xA xl.length xc) := by rw [hX0.cell]; rfl
              have r3 : W0.cell? ⟨wr.heap.size, 3, none⟩ = some (.int .i64 xn) := by rw [hX0.cell]; rfl
              clear hC1 hr9
              go_wp2_with fail
              refine HC1.out.mono ?_
              rintro e w3 ⟨rfl, hA3, ht3⟩
              have hb3 := Tw.new hb0 ht3 hg hmm
              have hR1 := hR0.tw hA0 ht3
              have hX3 := Blk.tw hX0 ht3 hxg hxm
              have hf1 := hf0.tw ht3 (hA0.others hg hmm).1 (hA0.others hg hmm).2
              have p1 : w3.cell? ⟨wr.heap.size, 1, none⟩ = some (.string xa) := by rw [hX3.cell]; rfl
              have p2 : w3.cell? ⟨wr.heap.size, 2, none⟩ = some (.slice xA xl.length xc) := by rw [hX3.cell]; rfl
              have p3 : w3.cell? ⟨wr.heap.size, 3, none⟩ = some (.int .i64 xn) := by rw [hX3.cell]; rfl
              have hC2 := refOn_calls hR1
              rw [HDn.out] at hC2
              have HC2 := Lib.hid hC2
              clear hC2 r1 r2 r3
              go_wp2_with fail
              refine HC2.out.mono ?_
              rintro e w4 ⟨rfl, hR4, hg4⟩
              have hA4 := hA3.ref hR1 hg4
              have hX4 := hX3.grown hg4 hxr
              have hb4 := hb3.grown hg4 hb3.size (fun j e => by injection e with e; omega)
              clear p1 p2 p3
              go_wp2_with fail
              go_meet
              exact ⟨0, D', rfl, rfl, hsp, hA4, hR4, hX4, hb4⟩
            obtain ⟨ec, D', hr9⟩ : ∃ ec E, saveD D xa xl = (ec, E) := ⟨_, _, rfl⟩
            have hsp : Hid (safeD q xa xl xn D = (ec, D')) := by unfold Hid safeD; rw [if_neg h3, if_neg h4, if_neg h5, if_neg h6, if_neg h7, hr9]
            have n3 : (q == 3) = false := beq_eq_false_iff_ne.2 h3
            have n4 : (q == 4) = false := beq_eq_false_iff_ne.2 h4
            have n5 : (q == 5) = false := beq_eq_false_iff_ne.2 h5
            have n6 : (q == 6) = false := beq_eq_false_iff_ne.2 h6
            have n7 : (q == 7) = false := beq_eq_false_iff_ne.2 h7
            clear hT1 h3 h4 h5 h6 h7
            have hC1 := Save_callsW hA0 hK xa (by omega) xA xl xc (by omega) (by have := hT.len; omega) (by omega) w.heap.size hf0 hxc1 hxc2 hb0.size hg hmm
            rw [hr9] at hC1
            have HC1 := Lib.hid hC1
            have HR9 := Lib.hid hr9
            have r1 : W0.cell? ⟨wr.heap.size, 1, none⟩ = some (.string xa) := by rw [hX0.cell]; rfl
            have r2 : W0.cell? ⟨wr.heap.size, 2, none⟩ = some (.slice xA xl.length xc) := by rw [hX0.cell]; rfl
            have r3 : W0.cell? ⟨wr.heap.size, 3, none⟩ = some (.int .i64 xn) := by rw [hX0.cell]; rfl
            clear hC1 hr9
            go_wp2_with fail
            refine HC1.out.mono ?_
            rintro e w3 ⟨rfl, hA3, ht3⟩
            have hb3 := Tw.new hb0 ht3 hg hmm
            have hR1 := hR0.tw hA0 ht3
            have hX3 := Blk.tw hX0 ht3 hxg hxm
            have hf1 := hf0.tw ht3 (hA0.others hg hmm).1 (hA0.others hg hmm).2
            have p1 : w3.cell? ⟨wr.heap.size, 1, none⟩ = some (.string xa) := by rw [hX3.cell]; rfl
            have p2 : w3.cell? ⟨wr.heap.size, 2, none⟩ = some (.slice xA xl.length xc) := by rw [hX3.cell]; rfl
            have p3 : w3.cell? ⟨wr.heap.size, 3, none⟩ = some (.int .i64 xn) := by rw [hX3.cell]; rfl
            have hC2 := refSave_calls hR1 hK xa x1 xA xl xc (by have := hT.len; omega) (by omega) w.heap.size hf1 hxc1 hxc2 hgr
            rw [HR9.out] at hC2
            have HC2 := Lib.hid hC2
            clear hC2 r1 r2 r3
            go_wp2_with fail
            refine HC2.out.mono ?_
            rintro e w4 ⟨rfl, hR4, hg4⟩
            have hA4 := hA3.ref hR1 hg4
            have hX4 := hX3.grown hg4 hxr
            have hb4 := hb3.grown hg4 hb3.size (fun j e => by injection e with e; omega)
            clear p1 p2 p3
            go_wp2_with fail
            go_meet
            exact ⟨ec, D', rfl, rfl, hsp, hA4, hR4, hX4, hb4⟩
          case rest =>
            obtain ⟨ec, D', rfl, rfl, hsp, hA4, hR4, hX4, hb4⟩ := hcut
            have hT2 : OkT (k + 1) D' := by have h9 := hT1; rw [hsp.out] at h9; exact h9
            have hKL : OkL D' := OkW.toL (hT2.mono (by omega) (by omega))
            obtain ⟨od, hod⟩ : ∃ od, od = opsD D'.done := ⟨_, rfl⟩
            have cO : ∀ W, Dsk W g m D' → Calls Try.prog 17 #[.pointer (some ⟨g, 0, none⟩)] W fun e w' => e = .returned (.int .i64 od) ∧ w' = W := by rw [hod]; exact fun W h => Ops_calls h
            have hSS : ∀ W, Blk W wr.heap.size 52 [.int .i64 xk, .string xa, .slice xA xl.length xc, .int .i64 xn] → Rdk W gr D' → W.cell? ⟨wr.heap.size, 1, none⟩ = some (.string xa) ∧ W.cell? ⟨wr.heap.size, 3, none⟩ = some (.int .i64 xn) ∧ W.cell? ⟨gr, 2, none⟩ = some (.int .i64 od) := by
              intro W hX9 hR9
              obtain ⟨fs9, A9, c9, _, _, k2, _⟩ := hR9.row
              exact ⟨by rw [hX9.cell]; rfl, by rw [hX9.cell]; rfl, by rw [hod]; exact k2⟩
            have cL : ∀ (gs : List FilA), Hid (gs.map FilA.f = D'.l) → gs.length ≤ 3518437208880 := by
              intro gs h9
              have h1 := congrArg List.length h9.out
              rw [List.length_map] at h1
              have := hKL.len
              omega
            have hA4d := hA4.drew
            have hR4d := hR4.drew
            have hX4d := hX4.drew
            clear hod hT1 hX0 hA0 hR0 hf0 hb0 hq
            rcases hndw with hnx | ⟨hnx, hle⟩
            · have hnx2 : (nd1 != nd2) = false := by unfold bne; rw [hnx]; rfl
              go_wp2_with fail
              refine wp_region_held_drew (S := fun w' => w'.cell? ⟨wr.heap.size, 1, none⟩ = some (.string xa) ∧ w'.cell? ⟨wr.heap.size, 3, none⟩ = some (.int .i64 xn) ∧ w'.cell? ⟨gr, 2, none⟩ = some (.int .i64 od)) (by kernel_rfl) (hSS _ hX4d hR4d) (fun hHeld => ?_)
              refine wpAnyH_take (i := 0) (oi := _) (v := .int .i64 ec) rfl (by kernel_rfl) (by kernel_rfl) (by kernel_rfl) (fun _ _ _ h => h) (Or.inl ⟨by rfl, fun w9 hS => ?_⟩) hHeld ?_
              · obtain ⟨s0, s1, s2⟩ := hS
                go_simp
              try simp only [Act.put, List.setIfInBounds_toArray, List.set_cons_zero, List.set_cons_succ, List.getElem_toArray, List.getElem_cons_zero]
              refine wpAnyH_take (i := 1) (oi := _) (v := .int .i64 ec) rfl (by kernel_rfl) (by kernel_rfl) (by kernel_rfl) (fun _ _ _ h => h) (Or.inl ⟨by rfl, fun w9 hS => ?_⟩) hHeld ?_
              · obtain ⟨s0, s1, s2⟩ := hS
                go_simp
              try simp only [Act.put, List.setIfInBounds_toArray, List.set_cons_zero, List.set_cons_succ, List.getElem_toArray, List.getElem_cons_succ, List.getElem_cons_zero]
              refine wpAnyH_take (i := 2) (oi := _) (v := .bool false) rfl (by kernel_rfl) (by kernel_rfl) (by kernel_rfl) (fun _ _ _ h => h) (Or.inl ⟨by rfl, fun w9 hS => ?_⟩) hHeld ?_
              · obtain ⟨s0, s1, s2⟩ := hS
                go_simp
              try simp only [Act.put, List.setIfInBounds_toArray, List.set_cons_zero, List.set_cons_succ, List.getElem_toArray, List.getElem_cons_succ, List.getElem_cons_zero]
              refine wpAnyH_take (i := 3) (oi := _) (v := .bool false) rfl (by kernel_rfl) (by kernel_rfl) (by kernel_rfl) (fun _ _ _ h => h) (Or.inl ⟨by rfl, fun w9 hS => ?_⟩) hHeld ?_
              · obtain ⟨s0, s1, s2⟩ := hS
                go_simp
              try simp only [Act.put, List.setIfInBounds_toArray, List.set_cons_zero, List.set_cons_succ, List.getElem_toArray, List.getElem_cons_succ, List.getElem_cons_zero]
              refine wpAnyH_take (i := 4) (oi := _) (v := .pointer (some ⟨g, 0, none⟩)) rfl (by kernel_rfl) (by kernel_rfl) (by kernel_rfl) (fun _ _ _ h => h) (Or.inl ⟨by rfl, fun w9 hS => ?_⟩) hHeld ?_
              · obtain ⟨s0, s1, s2⟩ := hS
                go_simp
              try simp only [Act.put, List.setIfInBounds_toArray, List.set_cons_zero, List.set_cons_succ, List.getElem_toArray, List.getElem_cons_succ, List.getElem_cons_zero]
              refine wpAnyH_take (i := 6) (oi := _) (v := .pointer (some ⟨gr, 0, none⟩)) rfl (by kernel_rfl) (by kernel_rfl) (by kernel_rfl) (fun _ _ _ h => h) (Or.inl ⟨by rfl, fun w9 hS => ?_⟩) hHeld ?_
              · obtain ⟨s0, s1, s2⟩ := hS
                go_simp
              try simp only [Act.put, List.setIfInBounds_toArray, List.set_cons_zero, List.set_cons_succ, List.getElem_toArray, List.getElem_cons_succ, List.getElem_cons_zero]
              refine wpAnyH_take (i := 7) (oi := _) (v := .pointer (some ⟨gr, 0, none⟩)) rfl (by kernel_rfl) (by kernel_rfl) (by kernel_rfl) (fun _ _ _ h => h) (Or.inl ⟨by rfl, fun w9 hS => ?_⟩) hHeld ?_
              · obtain ⟨s0, s1, s2⟩ := hS
                go_simp
              try simp only [Act.put, List.setIfInBounds_toArray, List.set_cons_zero, List.set_cons_succ, List.getElem_toArray, List.getElem_cons_succ, List.getElem_cons_zero]
              refine wpAnyH_take (i := 8) (oi := _) (v := .pointer (some ⟨gr, 2, none⟩)) rfl (by kernel_rfl) (by kernel_rfl) (by kernel_rfl) (fun _ _ _ h => h) (Or.inl ⟨by rfl, fun w9 hS => ?_⟩) hHeld ?_
              · obtain ⟨s0, s1, s2⟩ := hS
                go_simp
              try simp only [Act.put, List.setIfInBounds_toArray, List.set_cons_zero, List.set_cons_succ, List.getElem_toArray, List.getElem_cons_succ, List.getElem_cons_zero]
              refine wpAnyH_take (i := 9) (oi := _) (v := .int .i64 od) rfl (by kernel_rfl) (by kernel_rfl) (by kernel_rfl) (fun _ _ _ h => h) (Or.inl ⟨by rfl, fun w9 hS => ?_⟩) hHeld ?_
              · obtain ⟨s0, s1, s2⟩ := hS
                go_simp
              try simp only [Act.put, List.setIfInBounds_toArray, List.set_cons_zero, List.set_cons_succ, List.getElem_toArray, List.getElem_cons_succ, List.getElem_cons_zero]
              refine wpAnyH_ready (rs := [5]) (by kernel_rfl) (by simp) (AllReadyH.cons (o := _) rfl (fun K hK => ?_) AllReadyH.nil)
              go_simp
              refine (cO _ hA4d).mono ?_
              rintro e z0 ⟨rfl, hz0⟩
              obtain rfl := hz0.symm
              refine hK.out _ _ hHeld (fun hHeld => ?_)
              clear hK K
              try simp only [Act.put, List.setIfInBounds_toArray, List.set_cons_zero, List.set_cons_succ, List.getElem_toArray, List.getElem_cons_succ, List.getElem_cons_zero]
              refine wpAnyH_take (i := 10) (oi := _) (v := .bool false) rfl (by kernel_rfl) (by kernel_rfl) (by kernel_rfl) (fun _ _ _ h => h) (Or.inl ⟨by rfl, fun w9 hS => ?_⟩) hHeld ?_
              · obtain ⟨s0, s1, s2⟩ := hS
                go_simp
              try simp only [Act.put, List.setIfInBounds_toArray, List.set_cons_zero, List.set_cons_succ, List.getElem_toArray, List.getElem_cons_succ, List.getElem_cons_zero]
              refine wpAnyH_take (i := 11) (oi := _) (v := .bool false) rfl (by kernel_rfl) (by kernel_rfl) (by kernel_rfl) (fun _ _ _ h => h) (Or.inl ⟨by rfl, fun w9 hS => ?_⟩) hHeld ?_
              · obtain ⟨s0, s1, s2⟩ := hS
                go_simp
              try simp only [Act.put, List.setIfInBounds_toArray, List.set_cons_zero, List.set_cons_succ, List.getElem_toArray, List.getElem_cons_succ, List.getElem_cons_zero]
              refine wpAnyH_take (i := 12) (oi := _) (v := .bool false) rfl (by kernel_rfl) (by kernel_rfl) (by kernel_rfl) (fun _ _ _ h => h) (Or.inl ⟨by rfl, fun w9 hS => ?_⟩) hHeld ?_
              · obtain ⟨s0, s1, s2⟩ := hS
                go_simp
              try simp only [Act.put, List.setIfInBounds_toArray, List.set_cons_zero, List.set_cons_succ, List.getElem_toArray, List.getElem_cons_succ, List.getElem_cons_zero]
              refine wpAnyH_take (i := 13) (oi := _) (v := .pointer (some ⟨g, 0, none⟩)) rfl (by kernel_rfl) (by kernel_rfl) (by kernel_rfl) (fun _ _ _ h => h) (Or.inl ⟨by rfl, fun w9 hS => ?_⟩) hHeld ?_
              · obtain ⟨s0, s1, s2⟩ := hS
                go_simp
              try simp only [Act.put, List.setIfInBounds_toArray, List.set_cons_zero, List.set_cons_succ, List.getElem_toArray, List.getElem_cons_succ, List.getElem_cons_zero]
              refine wpAnyH_take (i := 16) (oi := _) (v := .pointer (some ⟨gr, 0, none⟩)) rfl (by kernel_rfl) (by kernel_rfl) (by kernel_rfl) (fun _ _ _ h => h) (Or.inl ⟨by rfl, fun w9 hS => ?_⟩) hHeld ?_
              · obtain ⟨s0, s1, s2⟩ := hS
                go_simp
              try simp only [Act.put, List.setIfInBounds_toArray, List.set_cons_zero, List.set_cons_succ, List.getElem_toArray, List.getElem_cons_succ, List.getElem_cons_zero]
              refine wpAnyH_ready (rs := [14]) (by kernel_rfl) (by simp) (AllReadyH.cons (o := _) rfl (fun K hK => ?_) AllReadyH.nil)
              go_simp
              refine (Dump_callsL hA4d hKL).mono ?_
              rintro e z2 ⟨gs, A1, c1, hgs, rfl, ho2, hF2, hb5⟩
              have hA5 := hA4d.below hb5
              have hR5 := hR4d.below hb5
              have hX5 := hX4d.below hb5 hX4d.lt
              have hgl := cL gs hgs
              have hs5 := hb5.size
              refine hK.out _ _ (hSS _ hX5 hR5) (fun hHeld => ?_)
              clear hK K
              try simp only [Act.put, List.setIfInBounds_toArray, List.set_cons_zero, List.set_cons_succ, List.getElem_toArray, List.getElem_cons_succ, List.getElem_cons_zero]
              refine wpAnyH_ready (rs := [15]) (by kernel_rfl) (by simp) (AllReadyH.cons (o := _) rfl (fun K hK => ?_) AllReadyH.nil)
              go_simp
              refine (theirs5_calls A1 gs c1 z2 (Rd.of_own ho2) hgl).mono ?_
              rintro e z3 ⟨ys, A2, c2, hys, rfl, ho3, hb6⟩
              have hR6 := hR5.below hb6
              have hX6 := hX5.below hb6 hX5.lt
              have hF6 := hF2.below hb6
              refine hK.out _ _ (hSS _ hX6 hR6) (fun hHeld => ?_)
              clear hK K
              try simp only [Act.put, List.setIfInBounds_toArray, List.set_cons_zero, List.set_cons_succ, List.getElem_toArray, List.getElem_cons_succ, List.getElem_cons_zero]
              refine wpAnyH_ready (rs := [17]) (by kernel_rfl) (by simp) (AllReadyH.cons (o := _) rfl (fun K hK => ?_) AllReadyH.nil)
              go_simp
              refine (refDump_callsL hR6 hKL).mono ?_
              rintro e z4 ⟨hs7, A3, c3, hhs, rfl, ho4, hF4, hb7⟩
              have hR7 := hR6.below hb7
              have hX7 := hX6.below hb7 hX6.lt
              have hhl := cL hs7 hhs
              have hyl : ys.length ≤ 3518437208880 := by rw [hys.out]; exact hgl
              have hF7 : Fls8 z4 0 ys := by rw [hys.out]; exact hF6.below hb7
              have hSM : Hid (ys.map FilA.f = hs7.map FilA.f) := by unfold Hid; rw [hys.out, hgs.out, hhs.out]
              refine hK.out _ _ (hSS _ hX7 hR7) (fun hHeld => ?_)
              clear hK K
              try simp only [Act.put, List.setIfInBounds_toArray, List.set_cons_zero, List.set_cons_succ, List.getElem_toArray, List.getElem_cons_succ, List.getElem_cons_zero]
              refine wpAnyH_ready (rs := [18]) (by kernel_rfl) (by simp) (AllReadyH.cons (o := _) rfl (fun K hK => ?_) AllReadyH.nil)
              go_simp
              refine (SameFiles_calls A2 ys c2 A3 hs7 c3 z4 _ _ _ _ (Rd.of_own (own_belowW ho3 hb7)) (Rd.of_own ho4) hF7 hF4 (by omega) (by omega)).mono ?_
              rintro e z5 ⟨u, nq, rfl, hu, hz5⟩
              obtain rfl : u = true := hu.2 hSM.out
              have hb8 : Below z4.heap.size z4 z5 := by rw [hz5]; exact (Below.refl _ _).drewN' nq
              have hR8 := hR7.below hb8
              have hX8 := hX7.below hb8 hX7.lt
              have hA8 := ((hA5.below hb6).below hb7).below hb8
              clear hu hz5
              refine hK.out _ _ (hSS _ hX8 hR8) (fun hHeld => ?_)
              clear hK K
              try simp only [Act.put, List.setIfInBounds_toArray, List.set_cons_zero, List.set_cons_succ, List.getElem_toArray, List.getElem_cons_succ, List.getElem_cons_zero]
              refine wpAnyH_take (i := 19) (oi := _) (v := .bool false) rfl (by kernel_rfl) (by kernel_rfl) (by kernel_rfl) (fun _ _ _ h => h) (Or.inl ⟨by rfl, fun w9 hS => ?_⟩) hHeld ?_
              · obtain ⟨s0, s1, s2⟩ := hS
                go_simp
              try simp only [Act.put, List.setIfInBounds_toArray, List.set_cons_zero, List.set_cons_succ, List.getElem_toArray, List.getElem_cons_succ, List.getElem_cons_zero]
              refine wpAnyH_take (i := 20) (oi := _) (v := .bool false) rfl (by kernel_rfl) (by kernel_rfl) (by kernel_rfl) (fun _ _ _ h => h) (Or.inl ⟨by rfl, fun w9 hS => ?_⟩) hHeld ?_
              · obtain ⟨s0, s1, s2⟩ := hS
                go_simp
              try simp only [Act.put, List.setIfInBounds_toArray, List.set_cons_zero, List.set_cons_succ, List.getElem_toArray, List.getElem_cons_succ, List.getElem_cons_zero]
              refine wpAnyH_take (i := 21) (oi := _) (v := .bool false) rfl (by kernel_rfl) (by kernel_rfl) (by kernel_rfl) (fun _ _ _ h => h) (Or.inl ⟨by rfl, fun w9 hS => ?_⟩) hHeld ?_
              · obtain ⟨s0, s1, s2⟩ := hS
                go_simp
              try simp only [Act.put, List.setIfInBounds_toArray, List.set_cons_zero, List.set_cons_succ, List.getElem_toArray, List.getElem_cons_succ, List.getElem_cons_zero]
              refine wpAnyH_take (i := 22) (oi := _) (v := .pointer (some ⟨wr.heap.size, 1, none⟩)) rfl (by kernel_rfl) (by kernel_rfl) (by kernel_rfl) (fun _ _ _ h => h) (Or.inl ⟨by rfl, fun w9 hS => ?_⟩) hHeld ?_
              · obtain ⟨s0, s1, s2⟩ := hS
                go_simp
              try simp only [Act.put, List.setIfInBounds_toArray, List.set_cons_zero, List.set_cons_succ, List.getElem_toArray, List.getElem_cons_succ, List.getElem_cons_zero]
              refine wpAnyH_take (i := 23) (oi := _) (v := .string xa) rfl (by kernel_rfl) (by kernel_rfl) (by kernel_rfl) (fun _ _ _ h => h) (Or.inl ⟨by rfl, fun w9 hS => ?_⟩) hHeld ?_
              · obtain ⟨s0, s1, s2⟩ := hS
                go_simp
              try simp only [Act.put, List.setIfInBounds_toArray, List.set_cons_zero, List.set_cons_succ, List.getElem_toArray, List.getElem_cons_succ, List.getElem_cons_zero]
              refine wpAnyH_take (i := 24) (oi := _) (v := .pointer (some ⟨wr.heap.size, 3, none⟩)) rfl (by kernel_rfl) (by kernel_rfl) (by kernel_rfl) (fun _ _ _ h => h) (Or.inl ⟨by rfl, fun w9 hS => ?_⟩) hHeld ?_
              · obtain ⟨s0, s1, s2⟩ := hS
                go_simp
              try simp only [Act.put, List.setIfInBounds_toArray, List.set_cons_zero, List.set_cons_succ, List.getElem_toArray, List.getElem_cons_succ, List.getElem_cons_zero]
              refine wpAnyH_take (i := 25) (oi := _) (v := .int .i64 xn) rfl (by kernel_rfl) (by kernel_rfl) (by kernel_rfl) (fun _ _ _ h => h) (Or.inl ⟨by rfl, fun w9 hS => ?_⟩) hHeld ?_
              · obtain ⟨s0, s1, s2⟩ := hS
                go_simp
              try simp only [Act.put, List.setIfInBounds_toArray, List.set_cons_zero, List.set_cons_succ, List.getElem_toArray, List.getElem_cons_succ, List.getElem_cons_zero]
              refine wpAnyH_take (i := 27) (oi := _) (v := .pointer (some ⟨wr.heap.size, 1, none⟩)) rfl (by kernel_rfl) (by kernel_rfl) (by kernel_rfl) (fun _ _ _ h => h) (Or.inl ⟨by rfl, fun w9 hS => ?_⟩) hHeld ?_
              · obtain ⟨s0, s1, s2⟩ := hS
                go_simp
              try simp only [Act.put, List.setIfInBounds_toArray, List.set_cons_zero, List.set_cons_succ, List.getElem_toArray, List.getElem_cons_succ, List.getElem_cons_zero]
              refine wpAnyH_take (i := 28) (oi := _) (v := .string xa) rfl (by kernel_rfl) (by kernel_rfl) (by kernel_rfl) (fun _ _ _ h => h) (Or.inl ⟨by rfl, fun w9 hS => ?_⟩) hHeld ?_
              · obtain ⟨s0, s1, s2⟩ := hS
                go_simp
              try simp only [Act.put, List.setIfInBounds_toArray, List.set_cons_zero, List.set_cons_succ, List.getElem_toArray, List.getElem_cons_succ, List.getElem_cons_zero]
              refine wpAnyH_take (i := 29) (oi := _) (v := .pointer (some ⟨wr.heap.size, 3, none⟩)) rfl (by kernel_rfl) (by kernel_rfl) (by kernel_rfl) (fun _ _ _ h => h) (Or.inl ⟨by rfl, fun w9 hS => ?_⟩) hHeld ?_
              · obtain ⟨s0, s1, s2⟩ := hS
                go_simp
              try simp only [Act.put, List.setIfInBounds_toArray, List.set_cons_zero, List.set_cons_succ, List.getElem_toArray, List.getElem_cons_succ, List.getElem_cons_zero]
              refine wpAnyH_take (i := 30) (oi := _) (v := .int .i64 xn) rfl (by kernel_rfl) (by kernel_rfl) (by kernel_rfl) (fun _ _ _ h => h) (Or.inl ⟨by rfl, fun w9 hS => ?_⟩) hHeld ?_
              · obtain ⟨s0, s1, s2⟩ := hS
                go_simp
              try simp only [Act.put, List.setIfInBounds_toArray, List.set_cons_zero, List.set_cons_succ, List.getElem_toArray, List.getElem_cons_succ, List.getElem_cons_zero]
              have hMN := HMN.out
              refine wpAnyH_take (i := 31) (oi := _) (v := .int .i64 mn) rfl (by kernel_rfl) (by kernel_rfl) (by kernel_rfl) (fun _ _ _ h => h) (Or.inl ⟨by rfl, fun w9 hS => ?_⟩) hHeld ?_
              · obtain ⟨s0, s1, s2⟩ := hS
                go_simp
              try simp only [Act.put, List.setIfInBounds_toArray, List.set_cons_zero, List.set_cons_succ, List.getElem_toArray, List.getElem_cons_succ, List.getElem_cons_zero]
              clear hMN
              refine wpAnyH_ready (rs := [26]) (by kernel_rfl) (by simp) (AllReadyH.cons (o := _) rfl (fun K hK => ?_) AllReadyH.nil)
              go_simp
              refine (cN1 _).mono ?_
              rintro e z0 ⟨rfl, hz0⟩
              obtain rfl := hz0.symm
              refine hK.out _ _ hHeld (fun hHeld => ?_)
              clear hK K
              try simp only [Act.put, List.setIfInBounds_toArray, List.set_cons_zero, List.set_cons_succ, List.getElem_toArray, List.getElem_cons_succ, List.getElem_cons_zero]
              refine wpAnyH_ready (rs := [32]) (by kernel_rfl) (by simp) (AllReadyH.cons (o := _) rfl (fun K hK => ?_) AllReadyH.nil)
              go_simp
              refine (cN2 _).mono ?_
              rintro e z0 ⟨rfl, hz0⟩
              obtain rfl := hz0.symm
              refine hK.out _ _ hHeld (fun hHeld => ?_)
              clear hK K
              try simp only [Act.put, List.setIfInBounds_toArray, List.set_cons_zero, List.set_cons_succ, List.getElem_toArray, List.getElem_cons_succ, List.getElem_cons_zero]
              refine wpAnyH_take (i := 33) (oi := _) (v := .bool false) rfl (by kernel_rfl) (by kernel_rfl) (by kernel_rfl) (fun _ _ _ h => h) (Or.inl ⟨by rfl, fun w9 hS => ?_⟩) hHeld ?_
              · obtain ⟨s0, s1, s2⟩ := hS
                go_simp
              try simp only [Act.put, List.setIfInBounds_toArray, List.set_cons_zero, List.set_cons_succ, List.getElem_toArray, List.getElem_cons_succ, List.getElem_cons_zero]
              refine wpAnyH_take (i := 34) (oi := _) (v := .bool false) rfl (by kernel_rfl) (by kernel_rfl) (by kernel_rfl) (fun _ _ _ h => h) (Or.inl ⟨by rfl, fun w9 hS => ?_⟩) hHeld ?_
              · obtain ⟨s0, s1, s2⟩ := hS
                go_simp
              try simp only [Act.put, List.setIfInBounds_toArray, List.set_cons_zero, List.set_cons_succ, List.getElem_toArray, List.getElem_cons_succ, List.getElem_cons_zero]
              refine wpAnyH_take (i := 35) (oi := _) (v := undef) rfl (by kernel_rfl) (by kernel_rfl) (by kernel_rfl) (fun _ _ _ h => h) (Or.inr ⟨by rfl, rfl⟩) hHeld ?_
              try simp only [Act.put, List.setIfInBounds_toArray, List.set_cons_zero, List.set_cons_succ, List.getElem_toArray, List.getElem_cons_succ, List.getElem_cons_zero]
              refine wpAnyH_take (i := 36) (oi := _) (v := undef) rfl (by kernel_rfl) (by kernel_rfl) (by kernel_rfl) (fun _ _ _ h => h) (Or.inr ⟨by rfl, rfl⟩) hHeld ?_
              try simp only [Act.put, List.setIfInBounds_toArray, List.set_cons_zero, List.set_cons_succ, List.getElem_toArray, List.getElem_cons_succ, List.getElem_cons_zero]
              refine wpAnyH_take (i := 37) (oi := _) (v := undef) rfl (by kernel_rfl) (by kernel_rfl) (by kernel_rfl) (fun _ _ _ h => h) (Or.inr ⟨by rfl, rfl⟩) hHeld ?_
              try simp only [Act.put, List.setIfInBounds_toArray, List.set_cons_zero, List.set_cons_succ, List.getElem_toArray, List.getElem_cons_succ, List.getElem_cons_zero]
              refine wpAnyH_take (i := 38) (oi := _) (v := .bool false) rfl (by kernel_rfl) (by kernel_rfl) (by kernel_rfl) (fun _ _ _ h => h) (Or.inl ⟨by rfl, fun w9 hS => ?_⟩) hHeld ?_
              · obtain ⟨s0, s1, s2⟩ := hS
                go_simp
              try simp only [Act.put, List.setIfInBounds_toArray, List.set_cons_zero, List.set_cons_succ, List.getElem_toArray, List.getElem_cons_succ, List.getElem_cons_zero]
              refine wpAnyH_take (i := 39) (oi := _) (v := .bool false) rfl (by kernel_rfl) (by kernel_rfl) (by kernel_rfl) (fun _ _ _ h => h) (Or.inl ⟨by rfl, fun w9 hS => ?_⟩) hHeld ?_
              · obtain ⟨s0, s1, s2⟩ := hS
                go_simp
              try simp only [Act.put, List.setIfInBounds_toArray, List.set_cons_zero, List.set_cons_succ, List.getElem_toArray, List.getElem_cons_succ, List.getElem_cons_zero]
              refine wpAnyH_done (by kernel_rfl) ?_ _
              go_wp2_with fail
              have hb48 := hb4.drew.next hb5
              exact ⟨⟨k + 1, D', by go_num, by omega, by omega, hT2, hA8, hR8, ((hb48.next hb6).next hb7).next hb8⟩, by simp [intOf]; omega⟩
            · have hnx2 : (nd1 != nd2) = true := by unfold bne; rw [hnx]; rfl
              go_wp2_with fail
              refine wp_region_held_drew (S := fun w' => w'.cell? ⟨wr.heap.size, 1, none⟩ = some (.string xa) ∧ w'.cell? ⟨wr.heap.size, 3, none⟩ = some (.int .i64 xn) ∧ w'.cell? ⟨gr, 2, none⟩ = some (.int .i64 od)) (by kernel_rfl) (hSS _ hX4d hR4d) (fun hHeld => ?_)
              refine wpAnyH_take (i := 0) (oi := _) (v := .int .i64 ec) rfl (by kernel_rfl) (by kernel_rfl) (by kernel_rfl) (fun _ _ _ h => h) (Or.inl ⟨by rfl, fun w9 hS => ?_⟩) hHeld ?_
              · obtain ⟨s0, s1, s2⟩ := hS
                go_simp
              try simp only [Act.put, List.setIfInBounds_toArray, List.set_cons_zero, List.set_cons_succ, List.getElem_toArray, List.getElem_cons_zero]
              refine wpAnyH_take (i := 1) (oi := _) (v := .int .i64 ec) rfl (by kernel_rfl) (by kernel_rfl) (by kernel_rfl) (fun _ _ _ h => h) (Or.inl ⟨by rfl, fun w9 hS => ?_⟩) hHeld ?_
              · obtain ⟨s0, s1, s2⟩ := hS
                go_simp
              try simp only [Act.put, List.setIfInBounds_toArray, List.set_cons_zero, List.set_cons_succ, List.getElem_toArray, List.getElem_cons_succ, List.getElem_cons_zero]
              refine wpAnyH_take (i := 2) (oi := _) (v := .bool false) rfl (by kernel_rfl) (by kernel_rfl) (by kernel_rfl) (fun _ _ _ h => h) (Or.inl ⟨by rfl, fun w9 hS => ?_⟩) hHeld ?_
              · obtain ⟨s0, s1, s2⟩ := hS
                go_simp
              try simp only [Act.put, List.setIfInBounds_toArray, List.set_cons_zero, List.set_cons_succ, List.getElem_toArray, List.getElem_cons_succ, List.getElem_cons_zero]
              refine wpAnyH_take (i := 3) (oi := _) (v := .bool false) rfl (by kernel_rfl) (by kernel_rfl) (by kernel_rfl) (fun _ _ _ h => h) (Or.inl ⟨by rfl, fun w9 hS => ?_⟩) hHeld ?_
              · obtain ⟨s0, s1, s2⟩ := hS
                go_simp
              try simp only [Act.put, List.setIfInBounds_toArray, List.set_cons_zero, List.set_cons_succ, List.getElem_toArray, List.getElem_cons_succ, List.getElem_cons_zero]
              refine wpAnyH_take (i := 4) (oi := _) (v := .pointer (some ⟨g, 0, none⟩)) rfl (by kernel_rfl) (by kernel_rfl) (by kernel_rfl) (fun _ _ _ h => h) (Or.inl ⟨by rfl, fun w9 hS => ?_⟩) hHeld ?_
              · obtain ⟨s0, s1, s2⟩ := hS
                go_simp
              try simp only [Act.put, List.setIfInBounds_toArray, List.set_cons_zero, List.set_cons_succ, List.getElem_toArray, List.getElem_cons_succ, List.getElem_cons_zero]
              refine wpAnyH_take (i := 6) (oi := _) (v := .pointer (some ⟨gr, 0, none⟩)) rfl (by kernel_rfl) (by kernel_rfl) (by kernel_rfl) (fun _ _ _ h => h) (Or.inl ⟨by rfl, fun w9 hS => ?_⟩) hHeld ?_
              · obtain ⟨s0, s1, s2⟩ := hS
                go_simp
              try simp only [Act.put, List.setIfInBounds_toArray, List.set_cons_zero, List.set_cons_succ, List.getElem_toArray, List.getElem_cons_succ, List.getElem_cons_zero]
              refine wpAnyH_take (i := 7) (oi := _) (v := .pointer (some ⟨gr, 0, none⟩)) rfl (by kernel_rfl) (by kernel_rfl) (by kernel_rfl) (fun _ _ _ h => h) (Or.inl ⟨by rfl, fun w9 hS => ?_⟩) hHeld ?_
              · obtain ⟨s0, s1, s2⟩ := hS
                go_simp
              try simp only [Act.put, List.setIfInBounds_toArray, List.set_cons_zero, List.set_cons_succ, List.getElem_toArray, List.getElem_cons_succ, List.getElem_cons_zero]
              refine wpAnyH_take (i := 8) (oi := _) (v := .pointer (some ⟨gr, 2, none⟩)) rfl (by kernel_rfl) (by kernel_rfl) (by kernel_rfl) (fun _ _ _ h => h) (Or.inl ⟨by rfl, fun w9 hS => ?_⟩) hHeld ?_
              · obtain ⟨s0, s1, s2⟩ := hS
                go_simp
              try simp only [Act.put, List.setIfInBounds_toArray, List.set_cons_zero, List.set_cons_succ, List.getElem_toArray, List.getElem_cons_succ, List.getElem_cons_zero]
              refine wpAnyH_take (i := 9) (oi := _) (v := .int .i64 od) rfl (by kernel_rfl) (by kernel_rfl) (by kernel_rfl) (fun _ _ _ h => h) (Or.inl ⟨by rfl, fun w9 hS => ?_⟩) hHeld ?_
              · obtain ⟨s0, s1, s2⟩ := hS
                go_simp
              try simp only [Act.put, List.setIfInBounds_toArray, List.set_cons_zero, List.set_cons_succ, List.getElem_toArray, List.getElem_cons_succ, List.getElem_cons_zero]
              refine wpAnyH_ready (rs := [5]) (by kernel_rfl) (by simp) (AllReadyH.cons (o := _) rfl (fun K hK => ?_) AllReadyH.nil)
              go_simp
              refine (cO _ hA4d).mono ?_
              rintro e z0 ⟨rfl, hz0⟩
              obtain rfl := hz0.symm
              refine hK.out _ _ hHeld (fun hHeld => ?_)
              clear hK K
              try simp only [Act.put, List.setIfInBounds_toArray, List.set_cons_zero, List.set_cons_succ, List.getElem_toArray, List.getElem_cons_succ, List.getElem_cons_zero]
              refine wpAnyH_take (i := 10) (oi := _) (v := .bool false) rfl (by kernel_rfl) (by kernel_rfl) (by kernel_rfl) (fun _ _ _ h => h) (Or.inl ⟨by rfl, fun w9 hS => ?_⟩) hHeld ?_
              · obtain ⟨s0, s1, s2⟩ := hS
                go_simp
              try simp only [Act.put, List.setIfInBounds_toArray, List.set_cons_zero, List.set_cons_succ, List.getElem_toArray, List.getElem_cons_succ, List.getElem_cons_zero]
              refine wpAnyH_take (i := 11) (oi := _) (v := .bool false) rfl (by kernel_rfl) (by kernel_rfl) (by kernel_rfl) (fun _ _ _ h => h) (Or.inl ⟨by rfl, fun w9 hS => ?_⟩) hHeld ?_
              · obtain ⟨s0, s1, s2⟩ := hS
                go_simp
              try simp only [Act.put, List.setIfInBounds_toArray, List.set_cons_zero, List.set_cons_succ, List.getElem_toArray, List.getElem_cons_succ, List.getElem_cons_zero]
              refine wpAnyH_take (i := 12) (oi := _) (v := .bool false) rfl (by kernel_rfl) (by kernel_rfl) (by kernel_rfl) (fun _ _ _ h => h) (Or.inl ⟨by rfl, fun w9 hS => ?_⟩) hHeld ?_
              · obtain ⟨s0, s1, s2⟩ := hS
                go_simp
              try simp only [Act.put, List.setIfInBounds_toArray, List.set_cons_zero, List.set_cons_succ, List.getElem_toArray, List.getElem_cons_succ, List.getElem_cons_zero]
              refine wpAnyH_take (i := 13) (oi := _) (v := .pointer (some ⟨g, 0, none⟩)) rfl (by kernel_rfl) (by kernel_rfl) (by kernel_rfl) (fun _ _ _ h => h) (Or.inl ⟨by rfl, fun w9 hS => ?_⟩) hHeld ?_
              · obtain ⟨s0, s1, s2⟩ := hS
                go_simp
              try simp only [Act.put, List.setIfInBounds_toArray, List.set_cons_zero, List.set_cons_succ, List.getElem_toArray, List.getElem_cons_succ, List.getElem_cons_zero]
              refine wpAnyH_take (i := 16) (oi := _) (v := .pointer (some ⟨gr, 0, none⟩)) rfl (by kernel_rfl) (by kernel_rfl) (by kernel_rfl) (fun _ _ _ h => h) (Or.inl ⟨by rfl, fun w9 hS => ?_⟩) hHeld ?_
              · obtain ⟨s0, s1, s2⟩ := hS
                go_simp
              try simp only [Act.put, List.setIfInBounds_toArray, List.set_cons_zero, List.set_cons_succ, List.getElem_toArray, List.getElem_cons_succ, List.getElem_cons_zero]
              refine wpAnyH_ready (rs := [14]) (by kernel_rfl) (by simp) (AllReadyH.cons (o := _) rfl (fun K hK => ?_) AllReadyH.nil)
              go_simp
              refine (Dump_callsL hA4d hKL).mono ?_
              rintro e z2 ⟨gs, A1, c1, hgs, rfl, ho2, hF2, hb5⟩
              have hA5 := hA4d.below hb5
              have hR5 := hR4d.below hb5
              have hX5 := hX4d.below hb5 hX4d.lt
              have hgl := cL gs hgs
              have hs5 := hb5.size
              refine hK.out _ _ (hSS _ hX5 hR5) (fun hHeld => ?_)
              clear hK K
              try simp only [Act.put, List.setIfInBounds_toArray, List.set_cons_zero, List.set_cons_succ, List.getElem_toArray, List.getElem_cons_succ, List.getElem_cons_zero]
              refine wpAnyH_ready (rs := [15]) (by kernel_rfl) (by simp) (AllReadyH.cons (o := _) rfl (fun K hK => ?_) AllReadyH.nil)
              go_simp
              refine (theirs5_calls A1 gs c1 z2 (Rd.of_own ho2) hgl).mono ?_
              rintro e z3 ⟨ys, A2, c2, hys, rfl, ho3, hb6⟩
              have hR6 := hR5.below hb6
              have hX6 := hX5.below hb6 hX5.lt
              have hF6 := hF2.below hb6
              refine hK.out _ _ (hSS _ hX6 hR6) (fun hHeld => ?_)
              clear hK K
              try simp only [Act.put, List.setIfInBounds_toArray, List.set_cons_zero, List.set_cons_succ, List.getElem_toArray, List.getElem_cons_succ, List.getElem_cons_zero]
              refine wpAnyH_ready (rs := [17]) (by kernel_rfl) (by simp) (AllReadyH.cons (o := _) rfl (fun K hK => ?_) AllReadyH.nil)
              go_simp
              refine (refDump_callsL hR6 hKL).mono ?_
              rintro e z4 ⟨hs7, A3, c3, hhs, rfl, ho4, hF4, hb7⟩
              have hR7 := hR6.below hb7
              have hX7 := hX6.below hb7 hX6.lt
              have hhl := cL hs7 hhs
              have hyl : ys.length ≤ 3518437208880 := by rw [hys.out]; exact hgl
              have hF7 : Fls8 z4 0 ys := by rw [hys.out]; exact hF6.below hb7
              have hSM : Hid (ys.map FilA.f = hs7.map FilA.f) := by unfold Hid; rw [hys.out, hgs.out, hhs.out]
              refine hK.out _ _ (hSS _ hX7 hR7) (fun hHeld => ?_)
              clear hK K
              try simp only [Act.put, List.setIfInBounds_toArray, List.set_cons_zero, List.set_cons_succ, List.getElem_toArray, List.getElem_cons_succ, List.getElem_cons_zero]
              refine wpAnyH_ready (rs := [18]) (by kernel_rfl) (by simp) (AllReadyH.cons (o := _) rfl (fun K hK => ?_) AllReadyH.nil)
              go_simp
              refine (SameFiles_calls A2 ys c2 A3 hs7 c3 z4 _ _ _ _ (Rd.of_own (own_belowW ho3 hb7)) (Rd.of_own ho4) hF7 hF4 (by omega) (by omega)).mono ?_
              rintro e z5 ⟨u, nq, rfl, hu, hz5⟩
              obtain rfl : u = true := hu.2 hSM.out
              have hb8 : Below z4.heap.size z4 z5 := by rw [hz5]; exact (Below.refl _ _).drewN' nq
              have hR8 := hR7.below hb8
              have hX8 := hX7.below hb8 hX7.lt
              have hA8 := ((hA5.below hb6).below hb7).below hb8
              clear hu hz5
              refine hK.out _ _ (hSS _ hX8 hR8) (fun hHeld => ?_)
              clear hK K
              try simp only [Act.put, List.setIfInBounds_toArray, List.set_cons_zero, List.set_cons_succ, List.getElem_toArray, List.getElem_cons_succ, List.getElem_cons_zero]
              refine wpAnyH_take (i := 19) (oi := _) (v := .bool false) rfl (by kernel_rfl) (by kernel_rfl) (by kernel_rfl) (fun _ _ _ h => h) (Or.inl ⟨by rfl, fun w9 hS => ?_⟩) hHeld ?_
              · obtain ⟨s0, s1, s2⟩ := hS
                go_simp
              try simp only [Act.put, List.setIfInBounds_toArray, List.set_cons_zero, List.set_cons_succ, List.getElem_toArray, List.getElem_cons_succ, List.getElem_cons_zero]
              refine wpAnyH_take (i := 20) (oi := _) (v := .bool false) rfl (by kernel_rfl) (by kernel_rfl) (by kernel_rfl) (fun _ _ _ h => h) (Or.inl ⟨by rfl, fun w9 hS => ?_⟩) hHeld ?_
              · obtain ⟨s0, s1, s2⟩ := hS
                go_simp
              try simp only [Act.put, List.setIfInBounds_toArray, List.set_cons_zero, List.set_cons_succ, List.getElem_toArray, List.getElem_cons_succ, List.getElem_cons_zero]
              refine wpAnyH_take (i := 21) (oi := _) (v := .bool false) rfl (by kernel_rfl) (by kernel_rfl) (by kernel_rfl) (fun _ _ _ h => h) (Or.inl ⟨by rfl, fun w9 hS => ?_⟩) hHeld ?_
              · obtain ⟨s0, s1, s2⟩ := hS
                go_simp
              try simp only [Act.put, List.setIfInBounds_toArray, List.set_cons_zero, List.set_cons_succ, List.getElem_toArray, List.getElem_cons_succ, List.getElem_cons_zero]
              refine wpAnyH_take (i := 22) (oi := _) (v := .pointer (some ⟨wr.heap.size, 1, none⟩)) rfl (by kernel_rfl) (by kernel_rfl) (by kernel_rfl) (fun _ _ _ h => h) (Or.inl ⟨by rfl, fun w9 hS => ?_⟩) hHeld ?_
              · obtain ⟨s0, s1, s2⟩ := hS
                go_simp
              try simp only [Act.put, List.setIfInBounds_toArray, List.set_cons_zero, List.set_cons_succ, List.getElem_toArray, List.getElem_cons_succ, List.getElem_cons_zero]
              refine wpAnyH_take (i := 23) (oi := _) (v := .string xa) rfl (by kernel_rfl) (by kernel_rfl) (by kernel_rfl) (fun _ _ _ h => h) (Or.inl ⟨by rfl, fun w9 hS => ?_⟩) hHeld ?_
              · obtain ⟨s0, s1, s2⟩ := hS
                go_simp
              try simp only [Act.put, List.setIfInBounds_toArray, List.set_cons_zero, List.set_cons_succ, List.getElem_toArray, List.getElem_cons_succ, List.getElem_cons_zero]
              refine wpAnyH_take (i := 24) (oi := _) (v := .pointer (some ⟨wr.heap.size, 3, none⟩)) rfl (by kernel_rfl) (by kernel_rfl) (by kernel_rfl) (fun _ _ _ h => h) (Or.inl ⟨by rfl, fun w9 hS => ?_⟩) hHeld ?_
              · obtain ⟨s0, s1, s2⟩ := hS
                go_simp
              try simp only [Act.put, List.setIfInBounds_toArray, List.set_cons_zero, List.set_cons_succ, List.getElem_toArray, List.getElem_cons_succ, List.getElem_cons_zero]
              refine wpAnyH_take (i := 25) (oi := _) (v := .int .i64 xn) rfl (by kernel_rfl) (by kernel_rfl) (by kernel_rfl) (fun _ _ _ h => h) (Or.inl ⟨by rfl, fun w9 hS => ?_⟩) hHeld ?_
              · obtain ⟨s0, s1, s2⟩ := hS
                go_simp
              try simp only [Act.put, List.setIfInBounds_toArray, List.set_cons_zero, List.set_cons_succ, List.getElem_toArray, List.getElem_cons_succ, List.getElem_cons_zero]
              refine wpAnyH_take (i := 27) (oi := _) (v := .pointer (some ⟨wr.heap.size, 1, none⟩)) rfl (by kernel_rfl) (by kernel_rfl) (by kernel_rfl) (fun _ _ _ h => h) (Or.inl ⟨by rfl, fun w9 hS => ?_⟩) hHeld ?_
              · obtain ⟨s0, s1, s2⟩ := hS
                go_simp
              try simp only [Act.put, List.setIfInBounds_toArray, List.set_cons_zero, List.set_cons_succ, List.getElem_toArray, List.getElem_cons_succ, List.getElem_cons_zero]
              refine wpAnyH_take (i := 28) (oi := _) (v := .string xa) rfl (by kernel_rfl) (by kernel_rfl) (by kernel_rfl) (fun _ _ _ h => h) (Or.inl ⟨by rfl, fun w9 hS => ?_⟩) hHeld ?_
              · obtain ⟨s0, s1, s2⟩ := hS
                go_simp
              try simp only [Act.put, List.setIfInBounds_toArray, List.set_cons_zero, List.set_cons_succ, List.getElem_toArray, List.getElem_cons_succ, List.getElem_cons_zero]
              refine wpAnyH_take (i := 29) (oi := _) (v := .pointer (some ⟨wr.heap.size, 3, none⟩)) rfl (by kernel_rfl) (by kernel_rfl) (by kernel_rfl) (fun _ _ _ h => h) (Or.inl ⟨by rfl, fun w9 hS => ?_⟩) hHeld ?_
              · obtain ⟨s0, s1, s2⟩ := hS
                go_simp
              try simp only [Act.put, List.setIfInBounds_toArray, List.set_cons_zero, List.set_cons_succ, List.getElem_toArray, List.getElem_cons_succ, List.getElem_cons_zero]
              refine wpAnyH_take (i := 30) (oi := _) (v := .int .i64 xn) rfl (by kernel_rfl) (by kernel_rfl) (by kernel_rfl) (fun _ _ _ h => h) (Or.inl ⟨by rfl, fun w9 hS => ?_⟩) hHeld ?_
              · obtain ⟨s0, s1, s2⟩ := hS
                go_simp
              try simp only [Act.put, List.setIfInBounds_toArray, List.set_cons_zero, List.set_cons_succ, List.getElem_toArray, List.getElem_cons_succ, List.getElem_cons_zero]
              have hMN := HMN.out
              refine wpAnyH_take (i := 31) (oi := _) (v := .int .i64 mn) rfl (by kernel_rfl) (by kernel_rfl) (by kernel_rfl) (fun _ _ _ h => h) (Or.inl ⟨by rfl, fun w9 hS => ?_⟩) hHeld ?_
              · obtain ⟨s0, s1, s2⟩ := hS
                go_simp
              try simp only [Act.put, List.setIfInBounds_toArray, List.set_cons_zero, List.set_cons_succ, List.getElem_toArray, List.getElem_cons_succ, List.getElem_cons_zero]
              clear hMN
              refine wpAnyH_ready (rs := [26]) (by kernel_rfl) (by simp) (AllReadyH.cons (o := _) rfl (fun K hK => ?_) AllReadyH.nil)
              go_simp
              refine (cN1 _).mono ?_
              rintro e z0 ⟨rfl, hz0⟩
              obtain rfl := hz0.symm
              refine hK.out _ _ hHeld (fun hHeld => ?_)
              clear hK K
              try simp only [Act.put, List.setIfInBounds_toArray, List.set_cons_zero, List.set_cons_succ, List.getElem_toArray, List.getElem_cons_succ, List.getElem_cons_zero]
              refine wpAnyH_ready (rs := [32]) (by kernel_rfl) (by simp) (AllReadyH.cons (o := _) rfl (fun K hK => ?_) AllReadyH.nil)
              go_simp
              refine (cN2 _).mono ?_
              rintro e z0 ⟨rfl, hz0⟩
              obtain rfl := hz0.symm
              refine hK.out _ _ hHeld (fun hHeld => ?_)
              clear hK K
              try simp only [Act.put, List.setIfInBounds_toArray, List.set_cons_zero, List.set_cons_succ, List.getElem_toArray, List.getElem_cons_succ, List.getElem_cons_zero]
              refine wpAnyH_take (i := 33) (oi := _) (v := .bool true) rfl (by kernel_rfl) (by kernel_rfl) (by kernel_rfl) (fun _ _ _ h => h) (Or.inl ⟨by rfl, fun w9 hS => ?_⟩) hHeld ?_
              · obtain ⟨s0, s1, s2⟩ := hS
                go_simp
              try simp only [Act.put, List.setIfInBounds_toArray, List.set_cons_zero, List.set_cons_succ, List.getElem_toArray, List.getElem_cons_succ, List.getElem_cons_zero]
              refine wpAnyH_take (i := 34) (oi := _) (v := .bool true) rfl (by kernel_rfl) (by kernel_rfl) (by kernel_rfl) (fun _ _ _ h => h) (Or.inl ⟨by rfl, fun w9 hS => ?_⟩) hHeld ?_
              · obtain ⟨s0, s1, s2⟩ := hS
                go_simp
              try simp only [Act.put, List.setIfInBounds_toArray, List.set_cons_zero, List.set_cons_succ, List.getElem_toArray, List.getElem_cons_succ, List.getElem_cons_zero]
              refine wpAnyH_take (i := 35) (oi := _) (v := .pointer (some ⟨wr.heap.size, 3, none⟩)) rfl (by kernel_rfl) (by kernel_rfl) (by kernel_rfl) (fun _ _ _ h => h) (Or.inl ⟨by rfl, fun w9 hS => ?_⟩) hHeld ?_
              · obtain ⟨s0, s1, s2⟩ := hS
                go_simp
              try simp only [Act.put, List.setIfInBounds_toArray, List.set_cons_zero, List.set_cons_succ, List.getElem_toArray, List.getElem_cons_succ, List.getElem_cons_zero]
              refine wpAnyH_take (i := 36) (oi := _) (v := .int .i64 xn) rfl (by kernel_rfl) (by kernel_rfl) (by kernel_rfl) (fun _ _ _ h => h) (Or.inl ⟨by rfl, fun w9 hS => ?_⟩) hHeld ?_
              · obtain ⟨s0, s1, s2⟩ := hS
                go_simp
              try simp only [Act.put, List.setIfInBounds_toArray, List.set_cons_zero, List.set_cons_succ, List.getElem_toArray, List.getElem_cons_succ, List.getElem_cons_zero]
              refine wpAnyH_take (i := 37) (oi := _) (v := .bool false) rfl (by kernel_rfl) (by kernel_rfl) (by kernel_rfl) (fun _ _ _ h => h) (Or.inl ⟨by rfl, fun w9 hS => ?_⟩) hHeld ?_
              · obtain ⟨s0, s1, s2⟩ := hS
                go_simp
              try simp only [Act.put, List.setIfInBounds_toArray, List.set_cons_zero, List.set_cons_succ, List.getElem_toArray, List.getElem_cons_succ, List.getElem_cons_zero]
              refine wpAnyH_take (i := 38) (oi := _) (v := .bool false) rfl (by kernel_rfl) (by kernel_rfl) (by kernel_rfl) (fun _ _ _ h => h) (Or.inl ⟨by rfl, fun w9 hS => ?_⟩) hHeld ?_
              · obtain ⟨s0, s1, s2⟩ := hS
                go_simp
              try simp only [Act.put, List.setIfInBounds_toArray, List.set_cons_zero, List.set_cons_succ, List.getElem_toArray, List.getElem_cons_succ, List.getElem_cons_zero]
              refine wpAnyH_take (i := 39) (oi := _) (v := .bool false) rfl (by kernel_rfl) (by kernel_rfl) (by kernel_rfl) (fun _ _ _ h => h) (Or.inl ⟨by rfl, fun w9 hS => ?_⟩) hHeld ?_
              · obtain ⟨s0, s1, s2⟩ := hS
                go_simp
              try simp only [Act.put, List.setIfInBounds_toArray, List.set_cons_zero, List.set_cons_succ, List.getElem_toArray, List.getElem_cons_succ, List.getElem_cons_zero]
              refine wpAnyH_done (by kernel_rfl) ?_ _
              go_wp2_with fail
              have hb48 := hb4.drew.next hb5
              exact ⟨⟨k + 1, D', by go_num, by omega, by omega, hT2, hA8, hR8, ((hb48.next hb6).next hb7).next hb8⟩, by simp [intOf]; omega⟩
        · have hd2 : decide ((k : Int) < 60) = false := decide_eq_false (by omega)
          have hd2n : decide (k < 60) = false := decide_eq_false hlt3
          clear hrs HOx hos
          go_wp2_with (first
            | (go_at_call 13; (with_reducible refine (SaveNil_calls _ (by decide) _ _ _ _).mono ?_); rintro e w9 ⟨rfl, hb9⟩)
            | (go_at_call 23; (with_reducible refine (SweepNil_calls _).mono ?_); rintro e z0 ⟨rfl, hz0⟩; obtain rfl := hz0.symm))
          go_ret
          exact ⟨rfl, hb.next hb9⟩
      · have hd : decide ((k : Int) < (s.length : Int)) = false := decide_eq_false (by omega)
        have hdn : decide (k < s.length) = false := decide_eq_false hlt
        clear hrs HOx hos
        go_wp2_with (first
          | (go_at_call 13; (with_reducible refine (SaveNil_calls _ (by decide) _ _ _ _).mono ?_); rintro e w9 ⟨rfl, hb9⟩)
          | (go_at_call 23; (with_reducible refine (SweepNil_calls _).mono ?_); rintro e z0 ⟨rfl, hz0⟩; obtain rfl := hz0.symm))
        go_ret
        exact ⟨rfl, hb.next hb9⟩
end Go.Proofs.Ytegolgkagdlocaa
