/- The walk of the law DiskCuts. Conditions: at most 2^47 commands. -/
import Derived.Test.YtogjlfpoedeooaaOp
import Derived.Test.YtogjlfpoedeooaaCutsLaw
import Derived.Test.YtogjlfpoedeooaaDiskAwake
import Derived.Test.YtogjlfpoedeooaaDisk7
import Derived.Test.YtogjlfpoedeooaaDisk8
import Derived.Test.YtogjlfpoedeooaaDisk11
import Derived.Test.YtogjlfpoedeooaaDisk14
import Derived.Test.YtogjlfpoedeooaaTheirs
import Derived.Test.YtogjlfpoedeooaaFilSame
namespace Go.Proofs.Ytogjlfpoedeooaa
open Go.RowKit Go.Dol
set_option linter.unusedVariables false
/-- The last bits of a number. -/
theorem mask_rng (x : Int) (k : Nat) (m : Int) (hm : m = ((2 ^ k - 1 : Nat) : Int)) (hk : k ≤ 62) : 0 ≤ bits .and .i64 x m ∧ bits .and .i64 x m ≤ m := by
  subst hm
  have h2 : (2 : Nat) ^ k ≤ 2 ^ 62 := Nat.pow_le_pow_right (by decide) hk
  have hp : 0 < (2 : Nat) ^ k := Nat.two_pow_pos k
  have hb : (BitVec.ofInt 64 ((2 ^ k - 1 : Nat) : Int)).toNat = 2 ^ k - 1 := by
    rw [BitVec.ofInt_natCast, BitVec.toNat_ofNat]
    exact Nat.mod_eq_of_lt (by omega)
  obtain ⟨r, hr⟩ : ∃ r, r = (BitVec.ofInt 64 x &&& BitVec.ofInt 64 ((2 ^ k - 1 : Nat) : Int)).toNat := ⟨_, rfl⟩
  have ha : r ≤ 2 ^ k - 1 := by
    rw [hr, BitVec.toNat_and, hb]
    exact Nat.and_le_right
  have e : bits .and .i64 x ((2 ^ k - 1 : Nat) : Int) = IntKind.i64.wrap (r : Int) := by rw [hr]; rfl
  rw [e, IntWalk.i64_in _ (by omega)]
  omega
theorem Blk.tw {w w' : World} {g m x : Nat} {T : TypeId} {cs : List Value} (h : Blk w x T cs) (ht : Tw w w' g m) (h1 : x ≠ g) (h2 : x ≠ m) : Blk w' x T cs := (ht.block x h.lt h1 h2).trans h
/-- The rounds: the two disks are alike, but for the cut. -/
def CuRel (s : List OpA) (n : Int) (ga ma gb mb : Nat) (w : World) (i : Value) (wr : World) : Prop :=
  ∃ (k : Nat) (Da Db : Dk), i = .int .i64 k ∧ k ≤ s.length ∧ Hid (InvC Da Db n) ∧ OkD Da ∧ OkD Db ∧ Dsk wr ga ma Da ∧ Dsk wr gb mb Db ∧ Below w.heap.size w wr
set_option maxRecDepth 100000 in
set_option maxHeartbeats 16000000 in
theorem diskCuts_walk (cap : Int) (As : Option Addr) (s : List OpA) (cs : Nat) (cut : Int) (w : World) (hcw : (Lit.int .i64 cap).wf = true) (hr : Rd w w.heap.size 5 As s.length (oc s)) (HOx : Ops8 w w.heap.size s) (hsl : s.length ≤ 140737488355328) (hcut : (Lit.int .i64 cut).wf = true) :
    Calls Try.prog 7 #[.int .i64 cap, .slice As s.length cs, .int .i64 cut] w fun e w' => e = .returned (.bool true) ∧ Below w.heap.size w w' := by
  obtain ⟨cap', hcap⟩ : ∃ c, bits .and .i64 cap 1048575 = c := ⟨_, rfl⟩
  obtain ⟨cut', hcu⟩ : ∃ c, bits .and .i64 cut 255 = c := ⟨_, rfl⟩
  have hm1 := mask_rng cap 20 1048575 rfl (by omega)
  have hm2 := mask_rng cut 8 255 rfl (by omega)
  rw [hcap] at hm1
  rw [hcu] at hm2
  clear hcw hcut
  have hAw := awake4_calls w
  go_enter Try.func7, Try.ntmps7
  go_wp2_with fail
  refine hAw.mono ?_
  rintro e w1 ⟨rfl, hb1⟩
  clear hAw
  have hN1 := Lib.hid (New_calls cap' w1 (by omega) (by omega))
  go_wp2_with fail
  refine hN1.out.mono ?_
  rintro e w2 ⟨ga, ma, rfl, hA2, hga2, hma2, hb2⟩
  have hN2 := Lib.hid (New_calls cap' w2 (by omega) (by omega))
  go_wp2_with fail
  refine hN2.out.mono ?_
  rintro e w3 ⟨gb, mb, rfl, hB3, hgb3, hmb3, hb3⟩
  have hA3 := hA2.below hb3
  have hlt := hA2.lt
  have hs1 := hb1.size
  have hs2 := hb2.size
  have hga : w.heap.size ≤ ga := by omega
  have hma : w.heap.size ≤ ma := by omega
  have hgb : w.heap.size ≤ gb := by omega
  have hmb : w.heap.size ≤ mb := by omega
  have hgab : ga ≠ gb := by omega
  have hmab : ma ≠ mb := by omega
  have hb03 := (hb1.next hb2).next hb3
  have hK0 : OkD (newD cap') := ⟨List.Pairwise.nil, by show 0 ≤ cap'; omega, by show cap' ≤ _; omega, by show (0 : Int) ≤ cap'; omega, by show (-1 : Int) ≤ -1; omega, by show (-1 : Int) ≤ _; omega, fun f hf => (List.not_mem_nil hf).elim⟩
  have hC := Cut_calls hA3 cut'
  have hcd : cutD (newD cap') cut' = (0, { newD cap' with left := cut' }) := by
    unfold cutD
    rw [if_neg (by omega)]
    rfl
  have hKc : OkD { newD cap' with left := cut' } := by have h1 := hK0.cut (k := cut') (by omega); rw [hcd] at h1; exact h1
  rw [hcd] at hC
  have HC := Lib.hid hC
  clear hC hcd hlt hga2 hma2 hgb3 hmb3
  go_wp2_with fail
  refine HC.out.mono ?_
  rintro e w4 ⟨rfl, hA4, ht4⟩
  have hb4 := Tw.new hb03 ht4 hga hma
  have hB4 := hB3.other hA3 (Ne.symm hgab) (Ne.symm hmab) ht4
  have hinv0 : Hid (InvC { newD cap' with left := cut' } (newD cap') cut') := ⟨rfl, rfl, rfl, rfl, rfl, rfl, by show cut' = cut' - ((0 : Nat) : Int); omega, by show 0 ≤ cut'; omega⟩
  clear hB3 hA3 hA2
  go_wp2_with fail
  go_loopw [13] (fun i wr => CuRel s cut' ga ma gb mb w i wr) (fun i _ => s.length - (intOf i).toNat)
  case atStart => exact ⟨0, _, _, rfl, Nat.zero_le _, hinv0, hKc, hK0, hA4, hB4, hb4⟩
  case round =>
    clear hinv0 hKc hK0 hA4 hB4 hb4 HC
    obtain ⟨k, Da, Db, rfl, hk, HI, hKa, hKb, hA, hB, hb⟩ := hrel
    have hs := hb.size
    have f1 : IntKind.i64.wrap ((k : Int) + 1) = (k : Int) + 1 := IntWalk.i64_in _ (by omega)
    by_cases hlt : k < s.length ∧ k < 100
    · have hd : decide ((k : Int) < (s.length : Int)) = true := decide_eq_true (by omega)
      have hd2 : decide ((k : Int) < 100) = true := decide_eq_true (by omega)
      have hd' : (k : Int) < (s.length : Int) := by omega
      have hk0 : (0 : Int) ≤ (k : Int) := by omega
      obtain ⟨x, hx⟩ : ∃ x, s[k]? = some x := ⟨s[k], List.getElem?_eq_getElem hlt.1⟩
      have hxm := List.mem_of_getElem? hx
      have hrw := hr.belowW hb (Nat.le_refl _)
      obtain ⟨bb, off, rfl, hbb, hcell⟩ := hrw.at_ (by omega)
      have hat := oc_at hx
      obtain ⟨_, x1, x2, _, _⟩ := HOx x hxm
      have hgl := hA.lt
      have hgl2 := hB.lt
      have hff0 := (HOx x hxm).1.1.below hb
      have q0 : wr.cell? ⟨bb, off + k * 5, none⟩ = some (.int .i64 x.k) := hcell _ _ (hat 0 (by omega))
      have q1 : wr.cell? ⟨bb, off + k * 5 + 1, none⟩ = some (.string x.a) := hcell _ _ (hat 1 (by omega))
      have q2 : wr.cell? ⟨bb, off + k * 5 + 2, none⟩ = some (.string x.b) := hcell _ _ (hat 2 (by omega))
      have q3 : wr.cell? ⟨bb, off + k * 5 + 3, none⟩ = some (.slice x.A x.l.length x.c) := hcell _ _ (hat 3 (by omega))
      have q4 : wr.cell? ⟨bb, off + k * 5 + 4, none⟩ = some (.int .i64 x.n) := hcell _ _ (hat 4 (by omega))
      have hX := Blk.new wr 56 x.cells
      have hbX := (Below.refl wr.heap.size wr).alloc (Nat.le_refl _) (.cells x.cells.toArray 56)
      obtain ⟨xk, xa, xb, xl, xA, xc, xn⟩ := x
      simp only at q0 q1 q2 q3 q4 x1 x2 hff0
      obtain ⟨W0, hW0⟩ : ∃ W, W = wr.alloc (.cells #[.int .i64 xk, .string xa, .string xb, .slice xA xl.length xc, .int .i64 xn] 56) := ⟨_, rfl⟩
      have hX0 : Blk W0 wr.heap.size 56 [.int .i64 xk, .string xa, .string xb, .slice xA xl.length xc, .int .i64 xn] := by rw [hW0]; exact hX
      have hbX0 : Below wr.heap.size wr W0 := by rw [hW0]; exact hbX
      have hA0 := hA.below hbX0
      have hB0 := hB.below hbX0
      have hb0 := hb.next hbX0
      have hff0 := hff0.below hbX0
      have hxga : wr.heap.size ≠ ga := by omega
      have hxma : wr.heap.size ≠ ma := by omega
      have hq3 := mask_rng xk 2 3 rfl (by omega)
      clear hx hat hcell hrw hX hbX hbX0 hA hB hb hr
      have hq4 : bits .and .i64 xk 3 = 0 ∨ bits .and .i64 xk 3 = 1 ∨ bits .and .i64 xk 3 = 2 ∨ bits .and .i64 xk 3 = 3 := by omega
      clear hq3
      rcases hq4 with hq | hq | hq | hq

      · obtain ⟨ea, Da', hea⟩ : ∃ e E, appD Da xa xl = (e, E) := ⟨_, _, rfl⟩
        obtain ⟨eb, Db', heb⟩ : ∃ e E, appD Db xa xl = (e, E) := ⟨_, _, rfl⟩
        have hKa' : OkD Da' := by have h1 := hKa.app xa xl; rw [hea] at h1; exact h1
        have hKb' : OkD Db' := by have h1 := hKb.app xa xl; rw [heb] at h1; exact h1
        have HST := Lib.hid (cut_step HI.out (q := 0) (a := xa) (b := xb) (l := xl) (e := ea) (f := eb) (D' := Da') (E' := Db') hea heb)
        have hOa := Append_calls hA0 hKa xa x1 w.heap.size xA xl xc hff0 hga
        rw [hea] at hOa
        have HOa := Lib.hid hOa
        have HEB := Lib.hid heb
        clear hOa hea heb
        go_wp2_with fail
        rw [← hW0]
        clear hW0
        refine HOa.out.mono ?_
        rintro e w3 ⟨rfl, hA3, ht3⟩
        have hb3 := Tw.new hb0 ht3 hga hma
        have hB3 := hB0.other hA0 (Ne.symm hgab) (Ne.symm hmab) ht3
        have hX3 := Blk.tw hX0 ht3 hxga hxma
        have HOf := Lib.hid (Off_calls hA3)
        have p0 : w3.cell? ⟨wr.heap.size, 0, none⟩ = some (.int .i64 xk) := by rw [hX3.cell]; rfl
        have p1 : w3.cell? ⟨wr.heap.size, 1, none⟩ = some (.string xa) := by rw [hX3.cell]; rfl
        have p2 : w3.cell? ⟨wr.heap.size, 2, none⟩ = some (.string xb) := by rw [hX3.cell]; rfl
        have p3 : w3.cell? ⟨wr.heap.size, 3, none⟩ = some (.slice xA xl.length xc) := by rw [hX3.cell]; rfl
        rcases HST.out with ⟨hdk, hend⟩ | ⟨hdk, hef, hinv⟩
        · have HE := Lib.hid hend
          clear hend
          rw [hdk] at HOf
          clear hdk p0 p1 p2 p3 hX3 hX0
          go_wp2_with ((go_at_call 35; (with_reducible refine HOf.out.mono ?_); rintro e z0 ⟨rfl, hz0⟩; obtain rfl := hz0.symm))
          have hEl := HE.out.l
          have hca := order_len hKa'
          have hcb := order_len hKb
          have HDa := Lib.hid (Dump_calls hA3 hKa')
          have hdone := HE.out.done
          have hle := HE.out.le
          have hfr : frD Da' = frD Db := by unfold frD; rw [HE.out.cap, HE.out.l]
          have hop : opsD Da'.done = (Da'.done : Int) := IntWalk.i64_in _ (by omega)
          obtain ⟨dn, hdn⟩ : ∃ dn, dn = Da'.done := ⟨_, rfl⟩
          obtain ⟨fr, hfre⟩ : ∃ fr, fr = frD Da' := ⟨_, rfl⟩
          rw [← hdn] at hop hle
          have hle2 : decide ((dn : Int) ≤ cut') = true := decide_eq_true hle
          have HOPa : Hid (opsD Da'.done = (dn : Int)) := by unfold Hid; rw [← hdn]; exact hop
          have HOPb : Hid (opsD Db.done = (dn : Int)) := by unfold Hid; rw [← hdone, ← hdn]; exact hop
          have HFRa : Hid (frD Da' = fr) := hfre.symm
          have HFRb : Hid (frD Db = fr) := by unfold Hid; rw [← hfr]; exact hfre.symm
          have HEl := Lib.hid hEl
          clear hop hdone hfr hdn hfre hEl
          go_wp2_with fail
          refine HDa.out.mono ?_
          rintro e z1 ⟨gs, A1, c1, hgs, rfl, ho1, hF1, hz1⟩
          have hbz1 := hb3.next hz1
          have hA1 := hA3.below hz1
          have hB1 := hB3.below hz1
          have hgl : gs.length ≤ 68719476736 := by have h1 := congrArg List.length hgs.out; rw [List.length_map] at h1; omega
          have HTa := Lib.hid (Theirs_calls A1 gs c1 z1 (Rd.of_own ho1) (by omega))
          go_wp2_with fail
          refine HTa.out.mono ?_
          rintro e z2 ⟨ys, A2, c2, hys, rfl, ho2, hz2⟩
          have hbz2 := hbz1.next hz2
          have hA2 := hA1.below hz2
          have hB2 := hB1.below hz2
          have HDb := Lib.hid (Dump_calls hB2 hKb)
          go_wp2_with fail
          refine HDb.out.mono ?_
          rintro e z3 ⟨gs2, A3, c3, hgs2, rfl, ho3, hF3, hz3⟩
          have hbz3 := hbz2.next hz3
          have hA3 := hA2.below hz3
          have hB3 := hB2.below hz3
          have hgl2 : gs2.length ≤ 68719476736 := by have h1 := congrArg List.length hgs2.out; rw [List.length_map] at h1; omega
          have HTb := Lib.hid (Theirs_calls A3 gs2 c3 z3 (Rd.of_own ho3) (by omega))
          go_wp2_with fail
          refine HTb.out.mono ?_
          rintro e z4 ⟨ys2, A4, c4, hys2, rfl, ho4, hz4⟩
          have hbz4 := hbz3.next hz4
          have hA4 := hA3.below hz4
          have hB4 := hB3.below hz4
          have hyl : ys.length ≤ 68719476736 := by rw [hys.out]; exact hgl
          have hyl2 : ys2.length ≤ 68719476736 := by rw [hys2.out]; exact hgl2
          have hFy : Fls8 z4 0 ys := by rw [hys.out]; exact (((hF1.below hz2).below hz3).below hz4)
          have hFy2 : Fls8 z4 0 ys2 := by rw [hys2.out]; exact hF3.below hz4
          have HSM : Hid (ys.map FilA.f = ys2.map FilA.f) := by unfold Hid; rw [hys.out, hys2.out, hgs.out, hgs2.out, HEl.out]
          have HSm := Lib.hid (SameFiles_calls A2 ys c2 A4 ys2 c4 z4 _ _ _ _ (Rd.of_own (own_belowW (own_belowW ho2 hz3) hz4)) (Rd.of_own ho4) hFy hFy2 (by omega) (by omega))
          go_wp2_with fail
          refine HSm.out.mono ?_
          rintro e z5 ⟨u, nq, rfl, hu, hz5⟩
          obtain rfl : u = true := hu.2 HSM.out
          clear hu
          have hbz45 : Below z4.heap.size z4 z5 := by rw [hz5]; exact (Below.refl _ _).drewN' nq
          have hbz5 := hbz4.next hbz45
          have hA5 := hA4.below hbz45
          have hB5 := hB4.below hbz45
          clear hz5
          have HOa := Ops_calls hA5
          rw [HOPa.out] at HOa
          have HOa2 := Lib.hid HOa
          have HOb := Ops_calls hB5
          rw [HOPb.out] at HOb
          have HOb2 := Lib.hid HOb
          have HOn := Lib.hid (On_calls hA5)
          clear HOa HOb
          go_wp2_with (first
            | (go_at_call 21; (with_reducible refine HOa2.out.mono ?_); rintro e z6 ⟨rfl, hz6⟩; obtain rfl := hz6.symm)
            | (go_at_call 21; (with_reducible refine HOb2.out.mono ?_); rintro e z6 ⟨rfl, hz6⟩; obtain rfl := hz6.symm))
          refine HOn.out.mono ?_
          rintro e z6 ⟨rfl, hA6, ht6⟩
          have hbz6 := Tw.new hbz5 ht6 hga hma
          have hB6 := hB5.other hA5 (Ne.symm hgab) (Ne.symm hmab) ht6
          have HOf := Lib.hid (Off_calls hA6)
          have hfon : frD (onD Da') = frD Da' := rfl
          have HFa := Free_calls hA6
          rw [hfon, HFRa.out] at HFa
          have HFa2 := Lib.hid HFa
          have HFb := Free_calls hB6
          rw [HFRb.out] at HFb
          have HFb2 := Lib.hid HFb
          have hdk : (onD Da').dark = false := rfl
          clear HFa HFb hfon
          go_wp2_with (first
            | (go_at_call 35; (with_reducible refine HOf.out.mono ?_); rintro e z7 ⟨rfl, hz7⟩; obtain rfl := hz7.symm)
            | (go_at_call 16; (with_reducible refine HFa2.out.mono ?_); rintro e z7 ⟨rfl, hz7⟩; obtain rfl := hz7.symm)
            | (go_at_call 16; (with_reducible refine HFb2.out.mono ?_); rintro e z7 ⟨rfl, hz7⟩; obtain rfl := hz7.symm))
          go_ret
          exact ⟨rfl, hbz6⟩
        · have HI2 := Lib.hid hinv
          clear hinv
          rw [hdk] at HOf
          clear hdk
          subst hef
          have hff := (HOx _ hxm).1.1.below hb3
          have hOb := Append_calls hB3 hKb xa x1 w.heap.size xA xl xc hff hgb
          rw [HEB.out] at hOb
          have HOb := Lib.hid hOb
          clear hOb
          go_wp2_with ((go_at_call 35; (with_reducible refine HOf.out.mono ?_); rintro e z0 ⟨rfl, hz0⟩; obtain rfl := hz0.symm))
          refine HOb.out.mono ?_
          rintro e w4 ⟨rfl, hB4, ht4⟩
          have hb4 := Tw.new hb3 ht4 hgb hmb
          have hA4 := hA3.other hB3 hgab hmab ht4
          go_wp2_with fail
          refine ⟨⟨k + 1, Da', Db', by go_num, by omega, HI2, hKa', hKb', hA4, hB4, hb4⟩, by simp [intOf]; omega⟩
      · obtain ⟨ea, Da', hea⟩ : ∃ e E, remD Da xa = (e, E) := ⟨_, _, rfl⟩
        obtain ⟨eb, Db', heb⟩ : ∃ e E, remD Db xa = (e, E) := ⟨_, _, rfl⟩
        have hKa' : OkD Da' := by have h1 := hKa.rem xa; rw [hea] at h1; exact h1
        have hKb' : OkD Db' := by have h1 := hKb.rem xa; rw [heb] at h1; exact h1
        have HST := Lib.hid (cut_step HI.out (q := 1) (a := xa) (b := xb) (l := xl) (e := ea) (f := eb) (D' := Da') (E' := Db') hea heb)
        have hOa := Remove_calls hA0 hKa xa x1
        rw [hea] at hOa
        have HOa := Lib.hid hOa
        have HEB := Lib.hid heb
        clear hOa hea heb
        go_wp2_with fail
        rw [← hW0]
        clear hW0
        refine HOa.out.mono ?_
        rintro e w3 ⟨rfl, hA3, ht3⟩
        have hb3 := Tw.new hb0 ht3 hga hma
        have hB3 := hB0.other hA0 (Ne.symm hgab) (Ne.symm hmab) ht3
        have hX3 := Blk.tw hX0 ht3 hxga hxma
        have HOf := Lib.hid (Off_calls hA3)
        have p0 : w3.cell? ⟨wr.heap.size, 0, none⟩ = some (.int .i64 xk) := by rw [hX3.cell]; rfl
        have p1 : w3.cell? ⟨wr.heap.size, 1, none⟩ = some (.string xa) := by rw [hX3.cell]; rfl
        have p2 : w3.cell? ⟨wr.heap.size, 2, none⟩ = some (.string xb) := by rw [hX3.cell]; rfl
        have p3 : w3.cell? ⟨wr.heap.size, 3, none⟩ = some (.slice xA xl.length xc) := by rw [hX3.cell]; rfl
        rcases HST.out with ⟨hdk, hend⟩ | ⟨hdk, hef, hinv⟩
        · have HE := Lib.hid hend
          clear hend
          rw [hdk] at HOf
          clear hdk p0 p1 p2 p3 hX3 hX0
          go_wp2_with ((go_at_call 35; (with_reducible refine HOf.out.mono ?_); rintro e z0 ⟨rfl, hz0⟩; obtain rfl := hz0.symm))
          have hEl := HE.out.l
          have hca := order_len hKa'
          have hcb := order_len hKb
          have HDa := Lib.hid (Dump_calls hA3 hKa')
          have hdone := HE.out.done
          have hle := HE.out.le
          have hfr : frD Da' = frD Db := by unfold frD; rw [HE.out.cap, HE.out.l]
          have hop : opsD Da'.done = (Da'.done : Int) := IntWalk.i64_in _ (by omega)
          obtain ⟨dn, hdn⟩ : ∃ dn, dn = Da'.done := ⟨_, rfl⟩
          obtain ⟨fr, hfre⟩ : ∃ fr, fr = frD Da' := ⟨_, rfl⟩
          rw [← hdn] at hop hle
          have hle2 : decide ((dn : Int) ≤ cut') = true := decide_eq_true hle
          have HOPa : Hid (opsD Da'.done = (dn : Int)) := by unfold Hid; rw [← hdn]; exact hop
          have HOPb : Hid (opsD Db.done = (dn : Int)) := by unfold Hid; rw [← hdone, ← hdn]; exact hop
          have HFRa : Hid (frD Da' = fr) := hfre.symm
          have HFRb : Hid (frD Db = fr) := by unfold Hid; rw [← hfr]; exact hfre.symm
          have HEl := Lib.hid hEl
          clear hop hdone hfr hdn hfre hEl
          go_wp2_with fail
          refine HDa.out.mono ?_
          rintro e z1 ⟨gs, A1, c1, hgs, rfl, ho1, hF1, hz1⟩
          have hbz1 := hb3.next hz1
          have hA1 := hA3.below hz1
          have hB1 := hB3.below hz1
          have hgl : gs.length ≤ 68719476736 := by have h1 := congrArg List.length hgs.out; rw [List.length_map] at h1; omega
          have HTa := Lib.hid (Theirs_calls A1 gs c1 z1 (Rd.of_own ho1) (by omega))
          go_wp2_with fail
          refine HTa.out.mono ?_
          rintro e z2 ⟨ys, A2, c2, hys, rfl, ho2, hz2⟩
          have hbz2 := hbz1.next hz2
          have hA2 := hA1.below hz2
          have hB2 := hB1.below hz2
          have HDb := Lib.hid (Dump_calls hB2 hKb)
          go_wp2_with fail
          refine HDb.out.mono ?_
          rintro e z3 ⟨gs2, A3, c3, hgs2, rfl, ho3, hF3, hz3⟩
          have hbz3 := hbz2.next hz3
          have hA3 := hA2.below hz3
          have hB3 := hB2.below hz3
          have hgl2 : gs2.length ≤ 68719476736 := by have h1 := congrArg List.length hgs2.out; rw [List.length_map] at h1; omega
          have HTb := Lib.hid (Theirs_calls A3 gs2 c3 z3 (Rd.of_own ho3) (by omega))
          go_wp2_with fail
          refine HTb.out.mono ?_
          rintro e z4 ⟨ys2, A4, c4, hys2, rfl, ho4, hz4⟩
          have hbz4 := hbz3.next hz4
          have hA4 := hA3.below hz4
          have hB4 := hB3.below hz4
          have hyl : ys.length ≤ 68719476736 := by rw [hys.out]; exact hgl
          have hyl2 : ys2.length ≤ 68719476736 := by rw [hys2.out]; exact hgl2
          have hFy : Fls8 z4 0 ys := by rw [hys.out]; exact (((hF1.below hz2).below hz3).below hz4)
          have hFy2 : Fls8 z4 0 ys2 := by rw [hys2.out]; exact hF3.below hz4
          have HSM : Hid (ys.map FilA.f = ys2.map FilA.f) := by unfold Hid; rw [hys.out, hys2.out, hgs.out, hgs2.out, HEl.out]
          have HSm := Lib.hid (SameFiles_calls A2 ys c2 A4 ys2 c4 z4 _ _ _ _ (Rd.of_own (own_belowW (own_belowW ho2 hz3) hz4)) (Rd.of_own ho4) hFy hFy2 (by omega) (by omega))
          go_wp2_with fail
          refine HSm.out.mono ?_
          rintro e z5 ⟨u, nq, rfl, hu, hz5⟩
          obtain rfl : u = true := hu.2 HSM.out
          clear hu
          have hbz45 : Below z4.heap.size z4 z5 := by rw [hz5]; exact (Below.refl _ _).drewN' nq
          have hbz5 := hbz4.next hbz45
          have hA5 := hA4.below hbz45
          have hB5 := hB4.below hbz45
          clear hz5
          have HOa := Ops_calls hA5
          rw [HOPa.out] at HOa
          have HOa2 := Lib.hid HOa
          have HOb := Ops_calls hB5
          rw [HOPb.out] at HOb
          have HOb2 := Lib.hid HOb
          have HOn := Lib.hid (On_calls hA5)
          clear HOa HOb
          go_wp2_with (first
            | (go_at_call 21; (with_reducible refine HOa2.out.mono ?_); rintro e z6 ⟨rfl, hz6⟩; obtain rfl := hz6.symm)
            | (go_at_call 21; (with_reducible refine HOb2.out.mono ?_); rintro e z6 ⟨rfl, hz6⟩; obtain rfl := hz6.symm))
          refine HOn.out.mono ?_
          rintro e z6 ⟨rfl, hA6, ht6⟩
          have hbz6 := Tw.new hbz5 ht6 hga hma
          have hB6 := hB5.other hA5 (Ne.symm hgab) (Ne.symm hmab) ht6
          have HOf := Lib.hid (Off_calls hA6)
          have hfon : frD (onD Da') = frD Da' := rfl
          have HFa := Free_calls hA6
          rw [hfon, HFRa.out] at HFa
          have HFa2 := Lib.hid HFa
          have HFb := Free_calls hB6
          rw [HFRb.out] at HFb
          have HFb2 := Lib.hid HFb
          have hdk : (onD Da').dark = false := rfl
          clear HFa HFb hfon
          go_wp2_with (first
            | (go_at_call 35; (with_reducible refine HOf.out.mono ?_); rintro e z7 ⟨rfl, hz7⟩; obtain rfl := hz7.symm)
            | (go_at_call 16; (with_reducible refine HFa2.out.mono ?_); rintro e z7 ⟨rfl, hz7⟩; obtain rfl := hz7.symm)
            | (go_at_call 16; (with_reducible refine HFb2.out.mono ?_); rintro e z7 ⟨rfl, hz7⟩; obtain rfl := hz7.symm))
          go_ret
          exact ⟨rfl, hbz6⟩
        · have HI2 := Lib.hid hinv
          clear hinv
          rw [hdk] at HOf
          clear hdk
          subst hef
          have hff := (HOx _ hxm).1.1.below hb3
          have hOb := Remove_calls hB3 hKb xa x1
          rw [HEB.out] at hOb
          have HOb := Lib.hid hOb
          clear hOb
          go_wp2_with ((go_at_call 35; (with_reducible refine HOf.out.mono ?_); rintro e z0 ⟨rfl, hz0⟩; obtain rfl := hz0.symm))
          refine HOb.out.mono ?_
          rintro e w4 ⟨rfl, hB4, ht4⟩
          have hb4 := Tw.new hb3 ht4 hgb hmb
          have hA4 := hA3.other hB3 hgab hmab ht4
          go_wp2_with fail
          refine ⟨⟨k + 1, Da', Db', by go_num, by omega, HI2, hKa', hKb', hA4, hB4, hb4⟩, by simp [intOf]; omega⟩
      · obtain ⟨ea, Da', hea⟩ : ∃ e E, renD Da xa xb = (e, E) := ⟨_, _, rfl⟩
        obtain ⟨eb, Db', heb⟩ : ∃ e E, renD Db xa xb = (e, E) := ⟨_, _, rfl⟩
        have hKa' : OkD Da' := by have h1 := hKa.ren xa xb; rw [hea] at h1; exact h1
        have hKb' : OkD Db' := by have h1 := hKb.ren xa xb; rw [heb] at h1; exact h1
        have HST := Lib.hid (cut_step HI.out (q := 2) (a := xa) (b := xb) (l := xl) (e := ea) (f := eb) (D' := Da') (E' := Db') hea heb)
        have hOa := Rename_calls hA0 hKa xa xb x1 x2
        rw [hea] at hOa
        have HOa := Lib.hid hOa
        have HEB := Lib.hid heb
        clear hOa hea heb
        go_wp2_with fail
        rw [← hW0]
        clear hW0
        refine HOa.out.mono ?_
        rintro e w3 ⟨rfl, hA3, ht3⟩
        have hb3 := Tw.new hb0 ht3 hga hma
        have hB3 := hB0.other hA0 (Ne.symm hgab) (Ne.symm hmab) ht3
        have hX3 := Blk.tw hX0 ht3 hxga hxma
        have HOf := Lib.hid (Off_calls hA3)
        have p0 : w3.cell? ⟨wr.heap.size, 0, none⟩ = some (.int .i64 xk) := by rw [hX3.cell]; rfl
        have p1 : w3.cell? ⟨wr.heap.size, 1, none⟩ = some (.string xa) := by rw [hX3.cell]; rfl
        have p2 : w3.cell? ⟨wr.heap.size, 2, none⟩ = some (.string xb) := by rw [hX3.cell]; rfl
        have p3 : w3.cell? ⟨wr.heap.size, 3, none⟩ = some (.slice xA xl.length xc) := by rw [hX3.cell]; rfl
        rcases HST.out with ⟨hdk, hend⟩ | ⟨hdk, hef, hinv⟩
        · have HE := Lib.hid hend
          clear hend
          rw [hdk] at HOf
          clear hdk p0 p1 p2 p3 hX3 hX0
          go_wp2_with ((go_at_call 35; (with_reducible refine HOf.out.mono ?_); rintro e z0 ⟨rfl, hz0⟩; obtain rfl := hz0.symm))
          have hEl := HE.out.l
          have hca := order_len hKa'
          have hcb := order_len hKb
          have HDa := Lib.hid (Dump_calls hA3 hKa')
          have hdone := HE.out.done
          have hle := HE.out.le
          have hfr : frD Da' = frD Db := by unfold frD; rw [HE.out.cap, HE.out.l]
          have hop : opsD Da'.done = (Da'.done : Int) := IntWalk.i64_in _ (by omega)
          obtain ⟨dn, hdn⟩ : ∃ dn, dn = Da'.done := ⟨_, rfl⟩
          obtain ⟨fr, hfre⟩ : ∃ fr, fr = frD Da' := ⟨_, rfl⟩
          rw [← hdn] at hop hle
          have hle2 : decide ((dn : Int) ≤ cut') = true := decide_eq_true hle
          have HOPa : Hid (opsD Da'.done = (dn : Int)) := by unfold Hid; rw [← hdn]; exact hop
          have HOPb : Hid (opsD Db.done = (dn : Int)) := by unfold Hid; rw [← hdone, ← hdn]; exact hop
          have HFRa : Hid (frD Da' = fr) := hfre.symm
          have HFRb : Hid (frD Db = fr) := by unfold Hid; rw [← hfr]; exact hfre.symm
          have HEl := Lib.hid hEl
          clear hop hdone hfr hdn hfre hEl
          go_wp2_with fail
          refine HDa.out.mono ?_
          rintro e z1 ⟨gs, A1, c1, hgs, rfl, ho1, hF1, hz1⟩
          have hbz1 := hb3.next hz1
          have hA1 := hA3.below hz1
          have hB1 := hB3.below hz1
          have hgl : gs.length ≤ 68719476736 := by have h1 := congrArg List.length hgs.out; rw [List.length_map] at h1; omega
          have HTa := Lib.hid (Theirs_calls A1 gs c1 z1 (Rd.of_own ho1) (by omega))
          go_wp2_with fail
          refine HTa.out.mono ?_
          rintro e z2 ⟨ys, A2, c2, hys, rfl, ho2, hz2⟩
          have hbz2 := hbz1.next hz2
          have hA2 := hA1.below hz2
          have hB2 := hB1.below hz2
          have HDb := Lib.hid (Dump_calls hB2 hKb)
          go_wp2_with fail
          refine HDb.out.mono ?_
          rintro e z3 ⟨gs2, A3, c3, hgs2, rfl, ho3, hF3, hz3⟩
          have hbz3 := hbz2.next hz3
          have hA3 := hA2.below hz3
          have hB3 := hB2.below hz3
          have hgl2 : gs2.length ≤ 68719476736 := by have h1 := congrArg List.length hgs2.out; rw [List.length_map] at h1; omega
          have HTb := Lib.hid (Theirs_calls A3 gs2 c3 z3 (Rd.of_own ho3) (by omega))
          go_wp2_with fail
          refine HTb.out.mono ?_
          rintro e z4 ⟨ys2, A4, c4, hys2, rfl, ho4, hz4⟩
          have hbz4 := hbz3.next hz4
          have hA4 := hA3.below hz4
          have hB4 := hB3.below hz4
          have hyl : ys.length ≤ 68719476736 := by rw [hys.out]; exact hgl
          have hyl2 : ys2.length ≤ 68719476736 := by rw [hys2.out]; exact hgl2
          have hFy : Fls8 z4 0 ys := by rw [hys.out]; exact (((hF1.below hz2).below hz3).below hz4)
          have hFy2 : Fls8 z4 0 ys2 := by rw [hys2.out]; exact hF3.below hz4
          have HSM : Hid (ys.map FilA.f = ys2.map FilA.f) := by unfold Hid; rw [hys.out, hys2.out, hgs.out, hgs2.out, HEl.out]
          have HSm := Lib.hid (SameFiles_calls A2 ys c2 A4 ys2 c4 z4 _ _ _ _ (Rd.of_own (own_belowW (own_belowW ho2 hz3) hz4)) (Rd.of_own ho4) hFy hFy2 (by omega) (by omega))
          go_wp2_with fail
          refine HSm.out.mono ?_
          rintro e z5 ⟨u, nq, rfl, hu, hz5⟩
          obtain rfl : u = true := hu.2 HSM.out
          clear hu
          have hbz45 : Below z4.heap.size z4 z5 := by rw [hz5]; exact (Below.refl _ _).drewN' nq
          have hbz5 := hbz4.next hbz45
          have hA5 := hA4.below hbz45
          have hB5 := hB4.below hbz45
          clear hz5
          have HOa := Ops_calls hA5
          rw [HOPa.out] at HOa
          have HOa2 := Lib.hid HOa
          have HOb := Ops_calls hB5
          rw [HOPb.out] at HOb
          have HOb2 := Lib.hid HOb
          have HOn := Lib.hid (On_calls hA5)
          clear HOa HOb
          go_wp2_with (first
            | (go_at_call 21; (with_reducible refine HOa2.out.mono ?_); rintro e z6 ⟨rfl, hz6⟩; obtain rfl := hz6.symm)
            | (go_at_call 21; (with_reducible refine HOb2.out.mono ?_); rintro e z6 ⟨rfl, hz6⟩; obtain rfl := hz6.symm))
          refine HOn.out.mono ?_
          rintro e z6 ⟨rfl, hA6, ht6⟩
          have hbz6 := Tw.new hbz5 ht6 hga hma
          have hB6 := hB5.other hA5 (Ne.symm hgab) (Ne.symm hmab) ht6
          have HOf := Lib.hid (Off_calls hA6)
          have hfon : frD (onD Da') = frD Da' := rfl
          have HFa := Free_calls hA6
          rw [hfon, HFRa.out] at HFa
          have HFa2 := Lib.hid HFa
          have HFb := Free_calls hB6
          rw [HFRb.out] at HFb
          have HFb2 := Lib.hid HFb
          have hdk : (onD Da').dark = false := rfl
          clear HFa HFb hfon
          go_wp2_with (first
            | (go_at_call 35; (with_reducible refine HOf.out.mono ?_); rintro e z7 ⟨rfl, hz7⟩; obtain rfl := hz7.symm)
            | (go_at_call 16; (with_reducible refine HFa2.out.mono ?_); rintro e z7 ⟨rfl, hz7⟩; obtain rfl := hz7.symm)
            | (go_at_call 16; (with_reducible refine HFb2.out.mono ?_); rintro e z7 ⟨rfl, hz7⟩; obtain rfl := hz7.symm))
          go_ret
          exact ⟨rfl, hbz6⟩
        · have HI2 := Lib.hid hinv
          clear hinv
          rw [hdk] at HOf
          clear hdk
          subst hef
          have hff := (HOx _ hxm).1.1.below hb3
          have hOb := Rename_calls hB3 hKb xa xb x1 x2
          rw [HEB.out] at hOb
          have HOb := Lib.hid hOb
          clear hOb
          go_wp2_with ((go_at_call 35; (with_reducible refine HOf.out.mono ?_); rintro e z0 ⟨rfl, hz0⟩; obtain rfl := hz0.symm))
          refine HOb.out.mono ?_
          rintro e w4 ⟨rfl, hB4, ht4⟩
          have hb4 := Tw.new hb3 ht4 hgb hmb
          have hA4 := hA3.other hB3 hgab hmab ht4
          go_wp2_with fail
          refine ⟨⟨k + 1, Da', Db', by go_num, by omega, HI2, hKa', hKb', hA4, hB4, hb4⟩, by simp [intOf]; omega⟩
      · obtain ⟨ea, Da', hea⟩ : ∃ e E, syncD Da xa = (e, E) := ⟨_, _, rfl⟩
        obtain ⟨eb, Db', heb⟩ : ∃ e E, syncD Db xa = (e, E) := ⟨_, _, rfl⟩
        have hKa' : OkD Da' := by have h1 := hKa.sync xa; rw [hea] at h1; exact h1
        have hKb' : OkD Db' := by have h1 := hKb.sync xa; rw [heb] at h1; exact h1
        have HST := Lib.hid (cut_step HI.out (q := 3) (a := xa) (b := xb) (l := xl) (e := ea) (f := eb) (D' := Da') (E' := Db') hea heb)
        have hOa := Sync_calls hA0 hKa xa x1
        rw [hea] at hOa
        have HOa := Lib.hid hOa
        have HEB := Lib.hid heb
        clear hOa hea heb
        go_wp2_with fail
        rw [← hW0]
        clear hW0
        refine HOa.out.mono ?_
        rintro e w3 ⟨rfl, hA3, ht3⟩
        have hb3 := Tw.new hb0 ht3 hga hma
        have hB3 := hB0.other hA0 (Ne.symm hgab) (Ne.symm hmab) ht3
        have hX3 := Blk.tw hX0 ht3 hxga hxma
        have HOf := Lib.hid (Off_calls hA3)
        have p0 : w3.cell? ⟨wr.heap.size, 0, none⟩ = some (.int .i64 xk) := by rw [hX3.cell]; rfl
        have p1 : w3.cell? ⟨wr.heap.size, 1, none⟩ = some (.string xa) := by rw [hX3.cell]; rfl
        have p2 : w3.cell? ⟨wr.heap.size, 2, none⟩ = some (.string xb) := by rw [hX3.cell]; rfl
        have p3 : w3.cell? ⟨wr.heap.size, 3, none⟩ = some (.slice xA xl.length xc) := by rw [hX3.cell]; rfl
        rcases HST.out with ⟨hdk, hend⟩ | ⟨hdk, hef, hinv⟩
        · have HE := Lib.hid hend
          clear hend
          rw [hdk] at HOf
          clear hdk p0 p1 p2 p3 hX3 hX0
          go_wp2_with ((go_at_call 35; (with_reducible refine HOf.out.mono ?_); rintro e z0 ⟨rfl, hz0⟩; obtain rfl := hz0.symm))
          have hEl := HE.out.l
          have hca := order_len hKa'
          have hcb := order_len hKb
          have HDa := Lib.hid (Dump_calls hA3 hKa')
          have hdone := HE.out.done
          have hle := HE.out.le
          have hfr : frD Da' = frD Db := by unfold frD; rw [HE.out.cap, HE.out.l]
          have hop : opsD Da'.done = (Da'.done : Int) := IntWalk.i64_in _ (by omega)
          obtain ⟨dn, hdn⟩ : ∃ dn, dn = Da'.done := ⟨_, rfl⟩
          obtain ⟨fr, hfre⟩ : ∃ fr, fr = frD Da' := ⟨_, rfl⟩
          rw [← hdn] at hop hle
          have hle2 : decide ((dn : Int) ≤ cut') = true := decide_eq_true hle
          have HOPa : Hid (opsD Da'.done = (dn : Int)) := by unfold Hid; rw [← hdn]; exact hop
          have HOPb : Hid (opsD Db.done = (dn : Int)) := by unfold Hid; rw [← hdone, ← hdn]; exact hop
          have HFRa : Hid (frD Da' = fr) := hfre.symm
          have HFRb : Hid (frD Db = fr) := by unfold Hid; rw [← hfr]; exact hfre.symm
          have HEl := Lib.hid hEl
          clear hop hdone hfr hdn hfre hEl
          go_wp2_with fail
          refine HDa.out.mono ?_
          rintro e z1 ⟨gs, A1, c1, hgs, rfl, ho1, hF1, hz1⟩
          have hbz1 := hb3.next hz1
          have hA1 := hA3.below hz1
          have hB1 := hB3.below hz1
          have hgl : gs.length ≤ 68719476736 := by have h1 := congrArg List.length hgs.out; rw [List.length_map] at h1; omega
          have HTa := Lib.hid (Theirs_calls A1 gs c1 z1 (Rd.of_own ho1) (by omega))
          go_wp2_with fail
          refine HTa.out.mono ?_
          rintro e z2 ⟨ys, A2, c2, hys, rfl, ho2, hz2⟩
          have hbz2 := hbz1.next hz2
          have hA2 := hA1.below hz2
          have hB2 := hB1.below hz2
          have HDb := Lib.hid (Dump_calls hB2 hKb)
          go_wp2_with fail
          refine HDb.out.mono ?_
          rintro e z3 ⟨gs2, A3, c3, hgs2, rfl, ho3, hF3, hz3⟩
          have hbz3 := hbz2.next hz3
          have hA3 := hA2.below hz3
          have hB3 := hB2.below hz3
          have hgl2 : gs2.length ≤ 68719476736 := by have h1 := congrArg List.length hgs2.out; rw [List.length_map] at h1; omega
          have HTb := Lib.hid (Theirs_calls A3 gs2 c3 z3 (Rd.of_own ho3) (by omega))
          go_wp2_with fail
          refine HTb.out.mono ?_
          rintro e z4 ⟨ys2, A4, c4, hys2, rfl, ho4, hz4⟩
          have hbz4 := hbz3.next hz4
          have hA4 := hA3.below hz4
          have hB4 := hB3.below hz4
          have hyl : ys.length ≤ 68719476736 := by rw [hys.out]; exact hgl
          have hyl2 : ys2.length ≤ 68719476736 := by rw [hys2.out]; exact hgl2
          have hFy : Fls8 z4 0 ys := by rw [hys.out]; exact (((hF1.below hz2).below hz3).below hz4)
          have hFy2 : Fls8 z4 0 ys2 := by rw [hys2.out]; exact hF3.below hz4
          have HSM : Hid (ys.map FilA.f = ys2.map FilA.f) := by unfold Hid; rw [hys.out, hys2.out, hgs.out, hgs2.out, HEl.out]
          have HSm := Lib.hid (SameFiles_calls A2 ys c2 A4 ys2 c4 z4 _ _ _ _ (Rd.of_own (own_belowW (own_belowW ho2 hz3) hz4)) (Rd.of_own ho4) hFy hFy2 (by omega) (by omega))
          go_wp2_with fail
          refine HSm.out.mono ?_
          rintro e z5 ⟨u, nq, rfl, hu, hz5⟩
          obtain rfl : u = true := hu.2 HSM.out
          clear hu
          have hbz45 : Below z4.heap.size z4 z5 := by rw [hz5]; exact (Below.refl _ _).drewN' nq
          have hbz5 := hbz4.next hbz45
          have hA5 := hA4.below hbz45
          have hB5 := hB4.below hbz45
          clear hz5
          have HOa := Ops_calls hA5
          rw [HOPa.out] at HOa
          have HOa2 := Lib.hid HOa
          have HOb := Ops_calls hB5
          rw [HOPb.out] at HOb
          have HOb2 := Lib.hid HOb
          have HOn := Lib.hid (On_calls hA5)
          clear HOa HOb
          go_wp2_with (first
            | (go_at_call 21; (with_reducible refine HOa2.out.mono ?_); rintro e z6 ⟨rfl, hz6⟩; obtain rfl := hz6.symm)
            | (go_at_call 21; (with_reducible refine HOb2.out.mono ?_); rintro e z6 ⟨rfl, hz6⟩; obtain rfl := hz6.symm))
          refine HOn.out.mono ?_
          rintro e z6 ⟨rfl, hA6, ht6⟩
          have hbz6 := Tw.new hbz5 ht6 hga hma
          have hB6 := hB5.other hA5 (Ne.symm hgab) (Ne.symm hmab) ht6
          have HOf := Lib.hid (Off_calls hA6)
          have hfon : frD (onD Da') = frD Da' := rfl
          have HFa := Free_calls hA6
          rw [hfon, HFRa.out] at HFa
          have HFa2 := Lib.hid HFa
          have HFb := Free_calls hB6
          rw [HFRb.out] at HFb
          have HFb2 := Lib.hid HFb
          have hdk : (onD Da').dark = false := rfl
          clear HFa HFb hfon
          go_wp2_with (first
            | (go_at_call 35; (with_reducible refine HOf.out.mono ?_); rintro e z7 ⟨rfl, hz7⟩; obtain rfl := hz7.symm)
            | (go_at_call 16; (with_reducible refine HFa2.out.mono ?_); rintro e z7 ⟨rfl, hz7⟩; obtain rfl := hz7.symm)
            | (go_at_call 16; (with_reducible refine HFb2.out.mono ?_); rintro e z7 ⟨rfl, hz7⟩; obtain rfl := hz7.symm))
          go_ret
          exact ⟨rfl, hbz6⟩
        · have HI2 := Lib.hid hinv
          clear hinv
          rw [hdk] at HOf
          clear hdk
          subst hef
          have hff := (HOx _ hxm).1.1.below hb3
          have hOb := Sync_calls hB3 hKb xa x1
          rw [HEB.out] at hOb
          have HOb := Lib.hid hOb
          clear hOb
          go_wp2_with ((go_at_call 35; (with_reducible refine HOf.out.mono ?_); rintro e z0 ⟨rfl, hz0⟩; obtain rfl := hz0.symm))
          refine HOb.out.mono ?_
          rintro e w4 ⟨rfl, hB4, ht4⟩
          have hb4 := Tw.new hb3 ht4 hgb hmb
          have hA4 := hA3.other hB3 hgab hmab ht4
          go_wp2_with fail
          refine ⟨⟨k + 1, Da', Db', by go_num, by omega, HI2, hKa', hKb', hA4, hB4, hb4⟩, by simp [intOf]; omega⟩
    · have HE := Lib.hid HI.out.fin
      have hE2 : (decide ((k : Int) < (s.length : Int)) = true ∧ decide ((k : Int) < 100) = false) ∨ (decide ((k : Int) < (s.length : Int)) = false ∧ decide ((k : Int) < 100) = false) ∨ (decide ((k : Int) < (s.length : Int)) = false ∧ decide ((k : Int) < 100) = true) := by
        by_cases h1 : k < s.length
        · exact .inl ⟨decide_eq_true (by omega), decide_eq_false (by omega)⟩
        · by_cases h2 : k < 100
          · exact .inr (.inr ⟨decide_eq_false (by omega), decide_eq_true (by omega)⟩)
          · exact .inr (.inl ⟨decide_eq_false (by omega), decide_eq_false (by omega)⟩)
      clear hlt
      rcases hE2 with ⟨hd, hd2⟩ | ⟨hd, hd2⟩ | ⟨hd, hd2⟩
      · have hd3 : ¬ ((k : Int) < 100) := of_decide_eq_false hd2
        have hd4 : ((k : Int) < (s.length : Int)) := of_decide_eq_true hd
        have hd5 : (k < s.length) := by omega
        have hd6 : ¬ (k < 100) := by omega
        have hd7 : decide (k < 100) = false := decide_eq_false hd6
        have hd8 : decide (k < s.length) = true := decide_eq_true hd5
        have hEl := HE.out.l
        have hca := order_len hKa
        have hcb := order_len hKb
        have HDa := Lib.hid (Dump_calls hA hKa)
        have hdone := HE.out.done
        have hle := HE.out.le
        have hfr : frD Da = frD Db := by unfold frD; rw [HE.out.cap, HE.out.l]
        have hop : opsD Da.done = (Da.done : Int) := IntWalk.i64_in _ (by omega)
        obtain ⟨dn, hdn⟩ : ∃ dn, dn = Da.done := ⟨_, rfl⟩
        obtain ⟨fr, hfre⟩ : ∃ fr, fr = frD Da := ⟨_, rfl⟩
        rw [← hdn] at hop hle
        have hle2 : decide ((dn : Int) ≤ cut') = true := decide_eq_true hle
        have HOPa : Hid (opsD Da.done = (dn : Int)) := by unfold Hid; rw [← hdn]; exact hop
        have HOPb : Hid (opsD Db.done = (dn : Int)) := by unfold Hid; rw [← hdone, ← hdn]; exact hop
        have HFRa : Hid (frD Da = fr) := hfre.symm
        have HFRb : Hid (frD Db = fr) := by unfold Hid; rw [← hfr]; exact hfre.symm
        have HEl := Lib.hid hEl
        clear hop hdone hfr hdn hfre hEl
        go_wp2_with fail
        refine HDa.out.mono ?_
        rintro e z1 ⟨gs, A1, c1, hgs, rfl, ho1, hF1, hz1⟩
        have hbz1 := hb.next hz1
        have hA1 := hA.below hz1
        have hB1 := hB.below hz1
        have hgl : gs.length ≤ 68719476736 := by have h1 := congrArg List.length hgs.out; rw [List.length_map] at h1; omega
        have HTa := Lib.hid (Theirs_calls A1 gs c1 z1 (Rd.of_own ho1) (by omega))
        go_wp2_with fail
        refine HTa.out.mono ?_
        rintro e z2 ⟨ys, A2, c2, hys, rfl, ho2, hz2⟩
        have hbz2 := hbz1.next hz2
        have hA2 := hA1.below hz2
        have hB2 := hB1.below hz2
        have HDb := Lib.hid (Dump_calls hB2 hKb)
        go_wp2_with fail
        refine HDb.out.mono ?_
        rintro e z3 ⟨gs2, A3, c3, hgs2, rfl, ho3, hF3, hz3⟩
        have hbz3 := hbz2.next hz3
        have hA3 := hA2.below hz3
        have hB3 := hB2.below hz3
        have hgl2 : gs2.length ≤ 68719476736 := by have h1 := congrArg List.length hgs2.out; rw [List.length_map] at h1; omega
        have HTb := Lib.hid (Theirs_calls A3 gs2 c3 z3 (Rd.of_own ho3) (by omega))
        go_wp2_with fail
        refine HTb.out.mono ?_
        rintro e z4 ⟨ys2, A4, c4, hys2, rfl, ho4, hz4⟩
        have hbz4 := hbz3.next hz4
        have hA4 := hA3.below hz4
        have hB4 := hB3.below hz4
        have hyl : ys.length ≤ 68719476736 := by rw [hys.out]; exact hgl
        have hyl2 : ys2.length ≤ 68719476736 := by rw [hys2.out]; exact hgl2
        have hFy : Fls8 z4 0 ys := by rw [hys.out]; exact (((hF1.below hz2).below hz3).below hz4)
        have hFy2 : Fls8 z4 0 ys2 := by rw [hys2.out]; exact hF3.below hz4
        have HSM : Hid (ys.map FilA.f = ys2.map FilA.f) := by unfold Hid; rw [hys.out, hys2.out, hgs.out, hgs2.out, HEl.out]
        have HSm := Lib.hid (SameFiles_calls A2 ys c2 A4 ys2 c4 z4 _ _ _ _ (Rd.of_own (own_belowW (own_belowW ho2 hz3) hz4)) (Rd.of_own ho4) hFy hFy2 (by omega) (by omega))
        go_wp2_with fail
        refine HSm.out.mono ?_
        rintro e z5 ⟨u, nq, rfl, hu, hz5⟩
        obtain rfl : u = true := hu.2 HSM.out
        clear hu
        have hbz45 : Below z4.heap.size z4 z5 := by rw [hz5]; exact (Below.refl _ _).drewN' nq
        have hbz5 := hbz4.next hbz45
        have hA5 := hA4.below hbz45
        have hB5 := hB4.below hbz45
        clear hz5
        have HOa := Ops_calls hA5
        rw [HOPa.out] at HOa
        have HOa2 := Lib.hid HOa
        have HOb := Ops_calls hB5
        rw [HOPb.out] at HOb
        have HOb2 := Lib.hid HOb
        have HOn := Lib.hid (On_calls hA5)
        clear HOa HOb
        go_wp2_with (first
          | (go_at_call 21; (with_reducible refine HOa2.out.mono ?_); rintro e z6 ⟨rfl, hz6⟩; obtain rfl := hz6.symm)
          | (go_at_call 21; (with_reducible refine HOb2.out.mono ?_); rintro e z6 ⟨rfl, hz6⟩; obtain rfl := hz6.symm))
        refine HOn.out.mono ?_
        rintro e z6 ⟨rfl, hA6, ht6⟩
        have hbz6 := Tw.new hbz5 ht6 hga hma
        have hB6 := hB5.other hA5 (Ne.symm hgab) (Ne.symm hmab) ht6
        have HOf := Lib.hid (Off_calls hA6)
        have hfon : frD (onD Da) = frD Da := rfl
        have HFa := Free_calls hA6
        rw [hfon, HFRa.out] at HFa
        have HFa2 := Lib.hid HFa
        have HFb := Free_calls hB6
        rw [HFRb.out] at HFb
        have HFb2 := Lib.hid HFb
        have hdk : (onD Da).dark = false := rfl
        clear HFa HFb hfon
        go_wp2_with (first
          | (go_at_call 35; (with_reducible refine HOf.out.mono ?_); rintro e z7 ⟨rfl, hz7⟩; obtain rfl := hz7.symm)
          | (go_at_call 16; (with_reducible refine HFa2.out.mono ?_); rintro e z7 ⟨rfl, hz7⟩; obtain rfl := hz7.symm)
          | (go_at_call 16; (with_reducible refine HFb2.out.mono ?_); rintro e z7 ⟨rfl, hz7⟩; obtain rfl := hz7.symm))
        go_ret
        exact ⟨rfl, hbz6⟩
      · have hd3 : ¬ ((k : Int) < 100) := of_decide_eq_false hd2
        have hd4 : ¬ ((k : Int) < (s.length : Int)) := of_decide_eq_false hd
        have hd5 : ¬ (k < s.length) := by omega
        have hd6 : ¬ (k < 100) := by omega
        have hd7 : decide (k < 100) = false := decide_eq_false hd6
        have hd8 : decide (k < s.length) = false := decide_eq_false hd5
        have hEl := HE.out.l
        have hca := order_len hKa
        have hcb := order_len hKb
        have HDa := Lib.hid (Dump_calls hA hKa)
        have hdone := HE.out.done
        have hle := HE.out.le
        have hfr : frD Da = frD Db := by unfold frD; rw [HE.out.cap, HE.out.l]
        have hop : opsD Da.done = (Da.done : Int) := IntWalk.i64_in _ (by omega)
        obtain ⟨dn, hdn⟩ : ∃ dn, dn = Da.done := ⟨_, rfl⟩
        obtain ⟨fr, hfre⟩ : ∃ fr, fr = frD Da := ⟨_, rfl⟩
        rw [← hdn] at hop hle
        have hle2 : decide ((dn : Int) ≤ cut') = true := decide_eq_true hle
        have HOPa : Hid (opsD Da.done = (dn : Int)) := by unfold Hid; rw [← hdn]; exact hop
        have HOPb : Hid (opsD Db.done = (dn : Int)) := by unfold Hid; rw [← hdone, ← hdn]; exact hop
        have HFRa : Hid (frD Da = fr) := hfre.symm
        have HFRb : Hid (frD Db = fr) := by unfold Hid; rw [← hfr]; exact hfre.symm
        have HEl := Lib.hid hEl
        clear hop hdone hfr hdn hfre hEl
        go_wp2_with fail
        refine HDa.out.mono ?_
        rintro e z1 ⟨gs, A1, c1, hgs, rfl, ho1, hF1, hz1⟩
        have hbz1 := hb.next hz1
        have hA1 := hA.below hz1
        have hB1 := hB.below hz1
        have hgl : gs.length ≤ 68719476736 := by have h1 := congrArg List.length hgs.out; rw [List.length_map] at h1; omega
        have HTa := Lib.hid (Theirs_calls A1 gs c1 z1 (Rd.of_own ho1) (by omega))
        go_wp2_with fail
        refine HTa.out.mono ?_
        rintro e z2 ⟨ys, A2, c2, hys, rfl, ho2, hz2⟩
        have hbz2 := hbz1.next hz2
        have hA2 := hA1.below hz2
        have hB2 := hB1.below hz2
        have HDb := Lib.hid (Dump_calls hB2 hKb)
        go_wp2_with fail
        refine HDb.out.mono ?_
        rintro e z3 ⟨gs2, A3, c3, hgs2, rfl, ho3, hF3, hz3⟩
        have hbz3 := hbz2.next hz3
        have hA3 := hA2.below hz3
        have hB3 := hB2.below hz3
        have hgl2 : gs2.length ≤ 68719476736 := by have h1 := congrArg List.length hgs2.out; rw [List.length_map] at h1; omega
        have HTb := Lib.hid (Theirs_calls A3 gs2 c3 z3 (Rd.of_own ho3) (by omega))
        go_wp2_with fail
        refine HTb.out.mono ?_
        rintro e z4 ⟨ys2, A4, c4, hys2, rfl, ho4, hz4⟩
        have hbz4 := hbz3.next hz4
        have hA4 := hA3.below hz4
        have hB4 := hB3.below hz4
        have hyl : ys.length ≤ 68719476736 := by rw [hys.out]; exact hgl
        have hyl2 : ys2.length ≤ 68719476736 := by rw [hys2.out]; exact hgl2
        have hFy : Fls8 z4 0 ys := by rw [hys.out]; exact (((hF1.below hz2).below hz3).below hz4)
        have hFy2 : Fls8 z4 0 ys2 := by rw [hys2.out]; exact hF3.below hz4
        have HSM : Hid (ys.map FilA.f = ys2.map FilA.f) := by unfold Hid; rw [hys.out, hys2.out, hgs.out, hgs2.out, HEl.out]
        have HSm := Lib.hid (SameFiles_calls A2 ys c2 A4 ys2 c4 z4 _ _ _ _ (Rd.of_own (own_belowW (own_belowW ho2 hz3) hz4)) (Rd.of_own ho4) hFy hFy2 (by omega) (by omega))
        go_wp2_with fail
        refine HSm.out.mono ?_
        rintro e z5 ⟨u, nq, rfl, hu, hz5⟩
        obtain rfl : u = true := hu.2 HSM.out
        clear hu
        have hbz45 : Below z4.heap.size z4 z5 := by rw [hz5]; exact (Below.refl _ _).drewN' nq
        have hbz5 := hbz4.next hbz45
        have hA5 := hA4.below hbz45
        have hB5 := hB4.below hbz45
        clear hz5
        have HOa := Ops_calls hA5
        rw [HOPa.out] at HOa
        have HOa2 := Lib.hid HOa
        have HOb := Ops_calls hB5
        rw [HOPb.out] at HOb
        have HOb2 := Lib.hid HOb
        have HOn := Lib.hid (On_calls hA5)
        clear HOa HOb
        go_wp2_with (first
          | (go_at_call 21; (with_reducible refine HOa2.out.mono ?_); rintro e z6 ⟨rfl, hz6⟩; obtain rfl := hz6.symm)
          | (go_at_call 21; (with_reducible refine HOb2.out.mono ?_); rintro e z6 ⟨rfl, hz6⟩; obtain rfl := hz6.symm))
        refine HOn.out.mono ?_
        rintro e z6 ⟨rfl, hA6, ht6⟩
        have hbz6 := Tw.new hbz5 ht6 hga hma
        have hB6 := hB5.other hA5 (Ne.symm hgab) (Ne.symm hmab) ht6
        have HOf := Lib.hid (Off_calls hA6)
        have hfon : frD (onD Da) = frD Da := rfl
        have HFa := Free_calls hA6
        rw [hfon, HFRa.out] at HFa
        have HFa2 := Lib.hid HFa
        have HFb := Free_calls hB6
        rw [HFRb.out] at HFb
        have HFb2 := Lib.hid HFb
        have hdk : (onD Da).dark = false := rfl
        clear HFa HFb hfon
        go_wp2_with (first
          | (go_at_call 35; (with_reducible refine HOf.out.mono ?_); rintro e z7 ⟨rfl, hz7⟩; obtain rfl := hz7.symm)
          | (go_at_call 16; (with_reducible refine HFa2.out.mono ?_); rintro e z7 ⟨rfl, hz7⟩; obtain rfl := hz7.symm)
          | (go_at_call 16; (with_reducible refine HFb2.out.mono ?_); rintro e z7 ⟨rfl, hz7⟩; obtain rfl := hz7.symm))
        go_ret
        exact ⟨rfl, hbz6⟩
      · have hd3 : ((k : Int) < 100) := of_decide_eq_true hd2
        have hd4 : ¬ ((k : Int) < (s.length : Int)) := of_decide_eq_false hd
        have hd5 : ¬ (k < s.length) := by omega
        have hd6 : (k < 100) := by omega
        have hd7 : decide (k < 100) = true := decide_eq_true hd6
        have hd8 : decide (k < s.length) = false := decide_eq_false hd5
        have hEl := HE.out.l
        have hca := order_len hKa
        have hcb := order_len hKb
        have HDa := Lib.hid (Dump_calls hA hKa)
        have hdone := HE.out.done
        have hle := HE.out.le
        have hfr : frD Da = frD Db := by unfold frD; rw [HE.out.cap, HE.out.l]
        have hop : opsD Da.done = (Da.done : Int) := IntWalk.i64_in _ (by omega)
        obtain ⟨dn, hdn⟩ : ∃ dn, dn = Da.done := ⟨_, rfl⟩
        obtain ⟨fr, hfre⟩ : ∃ fr, fr = frD Da := ⟨_, rfl⟩
        rw [← hdn] at hop hle
        have hle2 : decide ((dn : Int) ≤ cut') = true := decide_eq_true hle
        have HOPa : Hid (opsD Da.done = (dn : Int)) := by unfold Hid; rw [← hdn]; exact hop
        have HOPb : Hid (opsD Db.done = (dn : Int)) := by unfold Hid; rw [← hdone, ← hdn]; exact hop
        have HFRa : Hid (frD Da = fr) := hfre.symm
        have HFRb : Hid (frD Db = fr) := by unfold Hid; rw [← hfr]; exact hfre.symm
        have HEl := Lib.hid hEl
        clear hop hdone hfr hdn hfre hEl
        go_wp2_with fail
        refine HDa.out.mono ?_
        rintro e z1 ⟨gs, A1, c1, hgs, rfl, ho1, hF1, hz1⟩
        have hbz1 := hb.next hz1
        have hA1 := hA.below hz1
        have hB1 := hB.below hz1
        have hgl : gs.length ≤ 68719476736 := by have h1 := congrArg List.length hgs.out; rw [List.length_map] at h1; omega
        have HTa := Lib.hid (Theirs_calls A1 gs c1 z1 (Rd.of_own ho1) (by omega))
        go_wp2_with fail
        refine HTa.out.mono ?_
        rintro e z2 ⟨ys, A2, c2, hys, rfl, ho2, hz2⟩
        have hbz2 := hbz1.next hz2
        have hA2 := hA1.below hz2
        have hB2 := hB1.below hz2
        have HDb := Lib.hid (Dump_calls hB2 hKb)
        go_wp2_with fail
        refine HDb.out.mono ?_
        rintro e z3 ⟨gs2, A3, c3, hgs2, rfl, ho3, hF3, hz3⟩
        have hbz3 := hbz2.next hz3
        have hA3 := hA2.below hz3
        have hB3 := hB2.below hz3
        have hgl2 : gs2.length ≤ 68719476736 := by have h1 := congrArg List.length hgs2.out; rw [List.length_map] at h1; omega
        have HTb := Lib.hid (Theirs_calls A3 gs2 c3 z3 (Rd.of_own ho3) (by omega))
        go_wp2_with fail
        refine HTb.out.mono ?_
        rintro e z4 ⟨ys2, A4, c4, hys2, rfl, ho4, hz4⟩
        have hbz4 := hbz3.next hz4
        have hA4 := hA3.below hz4
        have hB4 := hB3.below hz4
        have hyl : ys.length ≤ 68719476736 := by rw [hys.out]; exact hgl
        have hyl2 : ys2.length ≤ 68719476736 := by rw [hys2.out]; exact hgl2
        have hFy : Fls8 z4 0 ys := by rw [hys.out]; exact (((hF1.below hz2).below hz3).below hz4)
        have hFy2 : Fls8 z4 0 ys2 := by rw [hys2.out]; exact hF3.below hz4
        have HSM : Hid (ys.map FilA.f = ys2.map FilA.f) := by unfold Hid; rw [hys.out, hys2.out, hgs.out, hgs2.out, HEl.out]
        have HSm := Lib.hid (SameFiles_calls A2 ys c2 A4 ys2 c4 z4 _ _ _ _ (Rd.of_own (own_belowW (own_belowW ho2 hz3) hz4)) (Rd.of_own ho4) hFy hFy2 (by omega) (by omega))
        go_wp2_with fail
        refine HSm.out.mono ?_
        rintro e z5 ⟨u, nq, rfl, hu, hz5⟩
        obtain rfl : u = true := hu.2 HSM.out
        clear hu
        have hbz45 : Below z4.heap.size z4 z5 := by rw [hz5]; exact (Below.refl _ _).drewN' nq
        have hbz5 := hbz4.next hbz45
        have hA5 := hA4.below hbz45
        have hB5 := hB4.below hbz45
        clear hz5
        have HOa := Ops_calls hA5
        rw [HOPa.out] at HOa
        have HOa2 := Lib.hid HOa
        have HOb := Ops_calls hB5
        rw [HOPb.out] at HOb
        have HOb2 := Lib.hid HOb
        have HOn := Lib.hid (On_calls hA5)
        clear HOa HOb
        go_wp2_with (first
          | (go_at_call 21; (with_reducible refine HOa2.out.mono ?_); rintro e z6 ⟨rfl, hz6⟩; obtain rfl := hz6.symm)
          | (go_at_call 21; (with_reducible refine HOb2.out.mono ?_); rintro e z6 ⟨rfl, hz6⟩; obtain rfl := hz6.symm))
        refine HOn.out.mono ?_
        rintro e z6 ⟨rfl, hA6, ht6⟩
        have hbz6 := Tw.new hbz5 ht6 hga hma
        have hB6 := hB5.other hA5 (Ne.symm hgab) (Ne.symm hmab) ht6
        have HOf := Lib.hid (Off_calls hA6)
        have hfon : frD (onD Da) = frD Da := rfl
        have HFa := Free_calls hA6
        rw [hfon, HFRa.out] at HFa
        have HFa2 := Lib.hid HFa
        have HFb := Free_calls hB6
        rw [HFRb.out] at HFb
        have HFb2 := Lib.hid HFb
        have hdk : (onD Da).dark = false := rfl
        clear HFa HFb hfon
        go_wp2_with (first
          | (go_at_call 35; (with_reducible refine HOf.out.mono ?_); rintro e z7 ⟨rfl, hz7⟩; obtain rfl := hz7.symm)
          | (go_at_call 16; (with_reducible refine HFa2.out.mono ?_); rintro e z7 ⟨rfl, hz7⟩; obtain rfl := hz7.symm)
          | (go_at_call 16; (with_reducible refine HFb2.out.mono ?_); rintro e z7 ⟨rfl, hz7⟩; obtain rfl := hz7.symm))
        go_ret
        exact ⟨rfl, hbz6⟩
end Go.Proofs.Ytogjlfpoedeooaa
