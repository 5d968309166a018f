/- The walks of the layer 'disk', its tenth part: a disk out of files. Conditions: names and bytes together below 2^46. -/
import Derived.Test.YtegolgkagdlocaaOkL
import Derived.Test.YtegolgkagdlocaaDisk5
import Derived.Test.YtegolgkagdlocaaFil
import Derived.Test.YtegolgkagdlocaaArr
import Derived.StillTailTactics
import Derived.Deep.RegionHeld3
namespace Go.Proofs.Ytegolgkagdlocaa
open Go.RowKit Go.Dol
set_option linter.unusedVariables false

set_option maxRecDepth 100000 in
set_option maxHeartbeats 800000 in
theorem cost_found (w : World) (g m : Nat) (n : ByteArray) (b : List UInt8) (A : Option Addr) (c : Nat) (k1 : w.cell? ⟨g, 1, none⟩ = some (.map (some m))) (hf : (Instr.lookup 70 (.map (some m)) (.string n) true).run Try.prog w = .ok (.tuple #[.slice A b.length c, .bool true]) w)
    (hn : n.size ≤ 140737488355328) (hb : b.length ≤ 140737488355328) :
    Calls Try.prog 40 #[.pointer (some ⟨g, 0, none⟩), .string n] w fun e w' => e = .returned (.int .i64 (16 + (n.size : Int) + (b.length : Int))) ∧ w' = w := by
  have f1 : IntKind.i64.wrap (16 + (n.size : Int)) = 16 + (n.size : Int) := IntWalk.i64_in _ (by omega)
  have f2 : IntKind.i64.wrap (16 + (n.size : Int) + (b.length : Int)) = 16 + (n.size : Int) + (b.length : Int) := IntWalk.i64_in _ (by omega)
  go_enter Try.func40, Try.ntmps40
  go_wp2_with fail
  go_ret
  exact ⟨rfl, rfl⟩
def memD (cap : Int) (l : List Fil) : Dk := ⟨cap, l, 0, -1, false⟩
/-- The rounds of Load: the first k files are loaded. -/
def LdRel (cap : Int) (fs : List FilA) (g m : Nat) (w : World) (i : Value) (wr : World) : Prop :=
  ∃ (k : Nat) (l : List Fil), i = .int .i64 k ∧ k ≤ fs.length ∧ Hid (loadL [] ((fs.take k).map FilA.f) = some l) ∧ Dsk wr g m (memD cap l) ∧ Below w.heap.size w wr
/-- What Load hands back. -/
def RetLoad (w : World) (r : Option Dk × Int) (e : Ending) (w' : World) : Prop :=
  match r.1 with
  | none => e = .returned (.tuple #[.pointer none, .int .i64 r.2]) ∧ Below w.heap.size w w'
  | some D => ∃ g m, e = .returned (.tuple #[.pointer (some ⟨g, 0, none⟩), .int .i64 r.2]) ∧ Dsk w' g m D ∧ w.heap.size ≤ g ∧ w.heap.size ≤ m ∧ Below w.heap.size w w'

set_option maxRecDepth 100000 in
set_option maxHeartbeats 1600000 in
theorem Load_callsL (cap : Int) (A : Option Addr) (fs : List FilA) (n c : Nat) (hn : n = fs.length) (w : World) (hr : Rd w w.heap.size 2 A n (fc fs)) (hR : Fls8 w w.heap.size fs) (hcap : -9223372036854775808 ≤ cap ∧ cap ≤ 9223372036854775807) (hnl : fs.length ≤ 140737488355328) (hsm : ∀ x ∈ fs, x.n.size ≤ 140737488355328 ∧ x.b.length ≤ 140737488355328) :
    Calls Try.prog 36 #[.int .i64 cap, .slice A n c] w (RetLoad w (loadD cap (fs.map FilA.f))) := by
  have HN := Lib.hid hn
  clear hn
  by_cases hc : cap < 0 ∨ 1099511627776 < cap
  · have HF : Hid (loadD cap (fs.map FilA.f) = (none, 1)) := if_pos hc
    go_enter Try.func36, Try.ntmps36
    go_wp2_with ((go_at_call 35; refine (NewNo_calls cap _ hc).mono ?_; rintro e w1 ⟨rfl, hw1⟩; obtain rfl := hw1.symm))
    go_ret2
    rw [HF.out]
    exact ⟨rfl, Below.refl _ _⟩
  · have hc1 : 0 ≤ cap := by omega
    have hc2 : cap ≤ 1099511627776 := by omega
    have HF : Hid (loadD cap (fs.map FilA.f) = match loadL [] (fs.map FilA.f) with | none => (none, 1) | some m => if frD ⟨cap, m, 0, -1, false⟩ < 0 then (none, 4) else (some ⟨cap, m, 0, -1, false⟩, 0)) := if_neg hc
    go_enter Try.func36, Try.ntmps36
    go_wp2_with ((go_at_call 35; refine (New_calls cap _ hc1 hc2).mono ?_; rintro e w1 ⟨g, m, rfl, hD1, hg1, hm1, hb1⟩))
    obtain ⟨W0, hW0⟩ : ∃ W0, W0 = w1 := ⟨_, rfl⟩
    rw [← hW0] at hD1 hb1 ⊢
    clear hW0
    go_loopw [20] (fun i wr => LdRel cap fs g m w i wr) (fun i _ => fs.length - (intOf i).toNat)
    case atStart => exact ⟨0, [], rfl, Nat.zero_le _, rfl, hD1, hb1⟩
    case round =>
      clear hD1 hb1
      obtain ⟨k, l, rfl, hk, hl, hD, hb⟩ := hrel
      have hkn : k ≤ n := by rw [HN.out]; exact hk
      have hlen47 : k ≤ 140737488355328 := by omega
      have hgl := hD.lt
      have hO : InOrder l := loadL_order hl.out List.Pairwise.nil
      by_cases hlt : k < n
      · have hd : decide ((k : Int) < (n : Int)) = true := decide_eq_true (by omega)
        have hlt2 : k < fs.length := by rw [← HN.out]; exact hlt
        obtain ⟨x, hx⟩ : ∃ x, fs[k]? = some x := ⟨fs[k], List.getElem?_eq_getElem hlt2⟩
        obtain ⟨x1, x2⟩ := fc_get hx
        have hxm := List.mem_of_getElem? hx
        have hrw := hr.belowW hb (Nat.le_refl _)
        obtain ⟨bb, off, rfl, hbb, hcell⟩ := hrw.at_ (by omega)
        have q0 : wr.cell? ⟨bb, off + k * 2, none⟩ = _ := hcell _ _ x1
        have q1 : wr.cell? ⟨bb, off + k * 2 + 1, none⟩ = _ := hcell _ _ x2
        have hxf := (hR x hxm).1.below hb
        have hxs := hsm x hxm
        have hnext : (fs.take (k + 1)).map FilA.f = (fs.take k).map FilA.f ++ [x.f] := by rw [List.take_add_one, hx]; simp
        have hall : fs.map FilA.f = (fs.take (k + 1)).map FilA.f ++ (fs.drop (k + 1)).map FilA.f := by rw [← List.map_append, List.take_append_drop]
        obtain ⟨xn, xb, xA, xc⟩ := x
        change (fs.take (k + 1)).map FilA.f = (fs.take k).map FilA.f ++ [(xn, xb)] at hnext
        have hsn : loadL [] ((fs.take k).map FilA.f ++ [(xn, xb)]) = if nameB xn = false ∨ (lookF l xn).isSome = true then none else some (putF l xn xb) := loadL_snoc hl.out (xn, xb)
        rw [← hnext] at hsn
        simp only at q0 q1 hxf hxs
        have hxn : xn.size ≤ 140737488355328 := by omega
        have hxb : xb.length ≤ 140737488355328 := by omega
        have HS := Lib.hid hsn
        have HA := Lib.hid hall
        have HX := Lib.hid hnext
        clear hx x1 x2 hcell hrw hsn hall hnext hxm hr
        have hF1 := Blk.new wr 63 [.string xn, .slice xA xb.length xc]
        have hb1 := (Below.refl wr.heap.size wr).alloc (Nat.le_refl _) (.cells #[.string xn, .slice xA xb.length xc] 63)
        have hb2 := hb1.alloc hb1.size (.cells #[.string xn] 9)
        have hF2 := hF1.alloc (.cells #[.string xn] 9)
        have hr2 : Rd ((wr.alloc (.cells #[.string xn, .slice xA xb.length xc] 63)).alloc (.cells #[.string xn] 9)) (wr.heap.size + 1 + 1) 1 (some ⟨wr.heap.size + 1, 0, none⟩) [xn].length (sc [xn]) := by
          have := Rd.new1 (wr.alloc (.cells #[.string xn, .slice xA xb.length xc] 63)) 9 (.string xn)
          rw [World.size_alloc] at this
          exact this
        obtain ⟨W2, hW2⟩ : ∃ W2, W2 = (wr.alloc (.cells #[.string xn, .slice xA xb.length xc] 63)).alloc (.cells #[.string xn] 9) := ⟨_, rfl⟩
        change Blk ((wr.alloc (.cells #[.string xn, .slice xA xb.length xc] 63)).alloc (.cells #[.string xn] 9)) _ _ _ at hF2
        rw [← hW2] at hb2 hF2 hr2
        have hD2 := hD.below hb2
        have hf2 := hxf.below hb2
        have p0 : W2.cell? ⟨wr.heap.size, 0, none⟩ = some (.string xn) := by rw [hF2.cell]; rfl
        have p1 : W2.cell? ⟨wr.heap.size, 1, none⟩ = some (.slice xA xb.length xc) := by rw [hF2.cell]; rfl
        have hw2 := hb.next hb2
        have hnm := named_calls _ _ [xn] 1 W2 hr2 (by simp)
        have hHa := Has_calls hD2 hO xn (by unfold maxLen; omega)
        obtain ⟨is, his⟩ : ∃ is, is = (lookF l xn).isSome := ⟨_, rfl⟩
        change Calls _ _ _ _ (fun e w' => e = .returned (.bool (lookF l xn).isSome) ∧ w' = W2) at hHa
        rw [← his] at hHa
        have eB : [xn].all nameB = nameB xn := by simp
        rw [eB] at hnm
        clear eB hF1 hb1
        cases hB : nameB xn with
        | false =>
          have HE : Hid (loadL [] (fs.map FilA.f) = none) := by
            unfold Hid
            rw [HA.out]
            refine loadL_none ?_
            rw [HS.out, if_pos (.inl hB)]
          rw [hB] at hnm
          have HNM := Lib.hid hnm
          clear hnm hB
          go_wp2_with fail
          rw [← hW2]
          clear hW2
          refine HNM.out.mono ?_
          rintro e w3 ⟨rfl, hw3⟩
          obtain rfl := hw3.symm
          go_wp2_with fail
          go_ret2
          rw [HF.out, HE.out]
          exact ⟨rfl, hw2⟩
        | true =>
          rw [hB] at hnm
          cases is with
          | true =>
            have HE : Hid (loadL [] (fs.map FilA.f) = none) := by
              unfold Hid
              rw [HA.out]
              refine loadL_none ?_
              rw [HS.out, if_pos (.inr his.symm)]
            have HNM := Lib.hid hnm
            have HHA := Lib.hid hHa
            clear hnm hHa hB his
            go_wp2_with fail
            rw [← hW2]
            clear hW2
            refine HNM.out.mono ?_
            rintro e w3 ⟨rfl, hw3⟩
            obtain rfl := hw3.symm
            go_wp2_with fail
            refine HHA.out.mono ?_
            rintro e w3 ⟨rfl, hw3⟩
            obtain rfl := hw3.symm
            go_wp2_with fail
            go_ret2
            rw [HF.out, HE.out]
            exact ⟨rfl, hw2⟩
          | false =>
            have HE : Hid (loadL [] ((fs.take (k + 1)).map FilA.f) = some (putF l xn xb)) := by
              unfold Hid
              rw [HS.out, if_neg]
              rintro (h | h)
              · rw [hB] at h; cases h
              · rw [← his] at h; cases h
            have HNM := Lib.hid hnm
            have HHA := Lib.hid hHa
            have hlk : lookF l xn = none := by cases h : lookF l xn with | none => rfl | some d => rw [h] at his; cases his
            have HLK := Lib.hid hlk
            clear hnm hHa hB his hlk
            go_wp2_with fail
            rw [← hW2]
            clear hW2
            refine HNM.out.mono ?_
            rintro e w3 ⟨rfl, hw3⟩
            obtain rfl := hw3.symm
            go_wp2_with fail
            refine HHA.out.mono ?_
            rintro e w3 ⟨rfl, hw3⟩
            obtain rfl := hw3.symm
            go_wp2_with fail
            obtain ⟨al, hBd, hM, hFl⟩ := id hD2
            obtain ⟨kl, hkl⟩ := str_key xn (by unfold maxLen; omega)
            have r0 : W2.cell? ⟨g, 1, none⟩ = some (.map (some m)) := by rw [hBd.cell]; rfl
            have hCl := Clone_calls W2.heap.size xA xb xb.length xc rfl W2.drew hf2.1.drew hxb
            have HCl := Lib.hid hCl
            have hgl2 := hBd.lt
            have hml2 := hM.lt
            have hgm := hM.blk_ne hBd
            have hsz2 := hb2.size
            have hxl : wr.heap.size < W2.heap.size := hF2.lt
            clear hCl
            go_region_held3 (fun w' => w'.cell? ⟨g, 1, none⟩ = some (.map (some m)) ∧ w'.cell? ⟨wr.heap.size, 0, none⟩ = some (.string xn) ∧ w'.cell? ⟨wr.heap.size, 1, none⟩ = some (.slice xA xb.length xc))
              (first | exact ⟨u1, u2, u3⟩ | exact ⟨v1, v2, v3⟩ | go_keep) ((first
                | (go_at_call 48; (with_reducible refine HCl.out.mono ?_); rintro e w3 ⟨l', A', c', he, rfl, ho3, hb3, _, _⟩;
                    have hb3' : Below W2.heap.size W2 w3 := ((Below.refl W2.heap.size W2).drew).trans hb3;
                    have v1 : w3.cell? ⟨g, 1, none⟩ = some (.map (some m)) := (hb3'.cell (p := ⟨g, 1, none⟩) hgl2).trans r0;
                    have v2 : w3.cell? ⟨wr.heap.size, 0, none⟩ = some (.string xn) := (hb3'.cell (p := ⟨wr.heap.size, 0, none⟩) hxl).trans p0;
                    have v3 : w3.cell? ⟨wr.heap.size, 1, none⟩ = some (.slice xA xb.length xc) := (hb3'.cell (p := ⟨wr.heap.size, 1, none⟩) hxl).trans p1;
                    have hM3 := hM.belowW hb3';
                    have hw3s := hb3'.size;
                    obtain ⟨al', w4, hrun, hM4, hp4, hg4⟩ := hM3.update str_law Try.underlying70 hkl (.slice A' l'.length c');
                    have u1 : w4.cell? ⟨g, 1, none⟩ = some (.map (some m)) := (World.cell?_of_block (hg4.block g (by omega) (fun e => by injection e with e; exact hgm e))).trans v1;
                    have u2 : w4.cell? ⟨wr.heap.size, 0, none⟩ = some (.string xn) := (World.cell?_of_block (hg4.block wr.heap.size (by omega) (fun e => by injection e with e; omega))).trans v2;
                    have u3 : w4.cell? ⟨wr.heap.size, 1, none⟩ = some (.slice xA xb.length xc) := (World.cell?_of_block (hg4.block wr.heap.size (by omega) (fun e => by injection e with e; omega))).trans v3)))
            go_wp2_with fail
            have hb3' : Below W2.heap.size W2 w3 := ((Below.refl W2.heap.size W2).drew).trans hb3
            have hM3 := hM.belowW hb3'
            have hB4 : Blk w4 g 77 (dcells cap m (frD (memD cap l)) 0 (-1) false) := (hBd.below hb3' hgl2).grown hg4 (fun e => by injection e with e; exact hgm e)
            have hv4 : Byt w4 (.slice A' l'.length c') xb := by
              have h5 := Byt.own ho3
              rw [he.out] at h5 ⊢
              exact h5.keep hg4 (Other.map hM3)
            have hF4 : Fls w4 al' (putF l xn xb) := ((hFl.below hb3').keep hg4 (Other.map hM3)).put hO hp4 hv4
            have hT4 : Tw W2 w4 g m := (Tw.below hb3').step (Tw.grownM hg4)
            have hsz4 := hT4.size
            have hfr : IntKind.i64.wrap (frD (memD cap l) - (16 + (xn.size : Int) + (xb.length : Int))) = frD (memD cap (putF l xn xb)) := by
              refine (free_turn (D := memD cap l) (D' := memD cap (putF l xn xb)) rfl ?_).symm
              show costs (putF l xn xb) = costs l + _
              rw [costs_putF hO, HLK.out]
            obtain ⟨A5, c5, hlk5⟩ : ∃ A5 c5, (Instr.lookup 70 (.map (some m)) (.string xn) true).run Try.prog w4.drew = .ok (.tuple #[.slice A5 xb.length c5, .bool true]) w4.drew := by
              have hlp : lookF (putF l xn xb) xn = some xb := by rw [look_put hO, if_pos rfl]
              rcases map_find hM4 hF4 (put_order hO) xn (by unfold maxLen; omega) with ⟨hl, _⟩ | ⟨b', A5, c5, hl, _, _, _, hf, _⟩
              · rw [hl.out] at hlp; cases hlp
              · have eb : b' = xb := by
                  have := hl.out
                  rw [hlp] at this
                  injection this with this
                  exact this.symm
                subst eb
                exact ⟨A5, c5, hf _ rfl⟩
            obtain ⟨W5, hW5⟩ : ∃ W5, W5 = w4.drew := ⟨_, rfl⟩
            rw [← hW5] at hlk5
            have r0' : W5.cell? ⟨g, 1, none⟩ = some (.map (some m)) := by rw [hW5]; exact u1
            have r1' : W5.cell? ⟨wr.heap.size, 0, none⟩ = some (.string xn) := by rw [hW5]; exact u2
            have hB5 : Blk W5 g 77 (dcells cap m (frD (memD cap l)) 0 (-1) false) := by rw [hW5]; exact hB4.drew
            have hM5 : MapL Try.prog 9 W5 m al' := by rw [hW5]; exact hM4.drew
            have hF5 : Fls W5 al' (putF l xn xb) := by rw [hW5]; exact hF4.below ⟨rfl, rfl, rfl, Nat.le_refl _, fun _ _ => rfl⟩
            have hT5 : Tw W2 W5 g m := by rw [hW5]; exact hT4.drew
            have r2' : W5.cell? ⟨g, 2, none⟩ = some (.int .i64 (frD (memD cap l))) := by rw [hB5.cell]; rfl
            have z2' := hB5.free 2
            have hco5 := cost_found W5 g m xn xb A5 c5 r0' hlk5 hxn hxb
            obtain ⟨fr, hfr0⟩ : ∃ fr, fr = frD (memD cap l) := ⟨_, rfl⟩
            rw [← hfr0] at hfr r2' hB5
            have HFR := Lib.hid hfr0
            obtain ⟨fr2, hfr2⟩ : ∃ fr2, fr2 = frD (memD cap (putF l xn xb)) := ⟨_, rfl⟩
            rw [← hfr2] at hfr
            have HFR2 := Lib.hid hfr2
            have HCO := Lib.hid hco5
            have hDn : Dsk (W5.setCell ⟨g, 2, none⟩ (.int .i64 fr2)) g m (memD cap (putF l xn xb)) := by
              have hg5 : W5.grownBy (W5.setCell ⟨g, 2, none⟩ (.int .i64 fr2)) (some g) := grown_setCell (World.grownBy.refl W5 _) 2 _
              refine ⟨al', ?_, hM5.grown hg5 (fun e => by injection e with e; exact hgm e.symm), hF5.keep hg5 (Other.blk hB5 (by decide) (Nat.zero_le _))⟩
              rw [← HFR2.out]
              exact hB5.set 2 _
            have hBn : Below w.heap.size w (W5.setCell ⟨g, 2, none⟩ (.int .i64 fr2)) := by
              have hg5 : W5.grownBy (W5.setCell ⟨g, 2, none⟩ (.int .i64 fr2)) (some g) := grown_setCell (World.grownBy.refl W5 _) 2 _
              exact Tw.new hw2 (hT5.step (Tw.grown hg5)) hg1 hm1
            clear hfr0 hfr2 hco5 u1 u2 u3 v1 v2 v3 hrun p0 p1 r0 hB4 hF4 hM4 hF5 hM5 hB5 hT4 hT5 hv4
            refine wp_region_still_tail 11 (by kernel_rfl) (by kernel_rfl) ?_
            change wpStill _ _ (World.drew w4) (fun a' => wpList _ _ _ _ a' (World.drew w4)) _ _
            rw [← hW5]
            clear hW5
            simp only [List.take_succ_cons, List.take_zero, List.drop_succ_cons, List.drop_zero]
            repeat still_step
            still_call HCO.out
            repeat still_step
            refine wpStill_nil ?_
            go_wp2_with fail
            refine ⟨⟨k + 1, putF l xn xb, by go_num, by omega, HE, hDn, hBn⟩, by simp [intOf]; omega⟩
      · have hd : decide ((k : Int) < (n : Int)) = false := decide_eq_false (by omega)
        have hE : loadL [] (fs.map FilA.f) = some l := by
          have h1 := hl.out
          rw [List.take_of_length_le (by rw [← HN.out]; omega)] at h1
          exact h1
        obtain ⟨_, _, r2, _⟩ := hD.cells
        obtain ⟨fr, hfr⟩ : ∃ fr, fr = frD (memD cap l) := ⟨_, rfl⟩
        rw [← hfr] at r2
        have HE := Lib.hid hE
        have HFR := Lib.hid hfr
        have HF2 : Hid (loadD cap (fs.map FilA.f) = if fr < 0 then (none, 4) else (some (memD cap l), 0)) := by
          unfold Hid
          rw [HF.out, HE.out, HFR.out]
          rfl
        clear hE hfr HF
        by_cases hneg : fr < 0
        · have d1 : decide (fr < 0) = true := decide_eq_true hneg
          have HF3 : Hid (loadD cap (fs.map FilA.f) = (none, 4)) := by unfold Hid; rw [HF2.out, if_pos hneg]
          clear hneg
          go_wp2_with fail
          go_ret2
          rw [HF3.out]
          exact ⟨rfl, hb⟩
        · have d1 : decide (fr < 0) = false := decide_eq_false hneg
          have HF3 : Hid (loadD cap (fs.map FilA.f) = (some (memD cap l), 0)) := by unfold Hid; rw [HF2.out, if_neg hneg]
          clear hneg
          go_wp2_with fail
          go_ret2
          rw [HF3.out]
          exact ⟨g, m, rfl, hD, hg1, hm1, hb⟩
theorem Load_calls (cap : Int) (A : Option Addr) (fs : List FilA) (n c : Nat) (hn : n = fs.length) (w : World) (hr : Rd w w.heap.size 2 A n (fc fs)) (hR : Fls8 w w.heap.size fs) (hcap : -9223372036854775808 ≤ cap ∧ cap ≤ 9223372036854775807) (hsum : costs (fs.map FilA.f) ≤ 140737488355328) :
    Calls Try.prog 36 #[.int .i64 cap, .slice A n c] w (RetLoad w (loadD cap (fs.map FilA.f))) := Load_callsL cap A fs n c hn w hr hR hcap (fls_small hsum).1 (fls_small hsum).2
end Go.Proofs.Ytegolgkagdlocaa
