/- The walks of the layer 'sum', its fifth part: a run is ended. Conditions: bytes that are made fit 2^47. -/
import Derived.Test.YtcefbhmmijmefaaSum4
import Derived.Test.YtcefbhmmijmefaaZeros
namespace Go.Dol
open Go.RowKit
/-- A whole value of several cells is loaded out of a block. -/
theorem wpList_load_cells {P : Program} {ops : Array Oper} {rest : List Oper} {o : Oper} {a : Act} {w : World} {Q : Exit → Act → World → Prop} (hgd : o.guard = none) (ty : TypeId) (x : Operand) (ho : o.op = .load ty x)
    (g f : Nat) (hx : a.eval x = .pointer (some ⟨g, f, none⟩)) (T : TypeId) (cs vs : List Value) (d : TypeDesc) (hg : Blk w g T cs) (hvs : ∀ j v, vs[j]? = some v → cs[f + j]? = some v)
    (hu : P.underlying ty = some d) (hd : (match d with | .struct _ | .array _ _ => true | _ => false) = true) (hi : (P.info? ty).map (·.size) = some vs.length)
    (h : wpList P ops Q rest (a.put o.dst (.agg vs.toArray)) w) : wpList P ops Q (o :: rest) a w := by
  refine wpList_plain hgd fun K hK => ?_
  have hl : (loadCells ⟨g, f, none⟩ vs.length).run P w = .ok vs.toArray w :=
    run_loadCells_list (P := P) w ⟨g, f, none⟩ vs (fun j v hv => by
      rw [Addr.add_lit, hg.cell]
      exact hvs j v hv)
  have hload : (loadVar ty ⟨g, f, none⟩).run P w = .ok (.agg vs.toArray) w := by
    cases hq : P.info? ty with
    | none => simp [hq] at hi
    | some i =>
      have hs : i.size = vs.length := by simpa [hq] using hi
      have hagg : (isAgg ty).run P w = .ok true w := by
        unfold isAgg
        rw [Sem.run_bind, run_underlying hu w]
        cases d <;> simp_all
      simp [loadVar, Sem.run_bind, hagg, sizeOf, typeInfo, hq, hs, hl]
  unfold Oper.wp execOp
  simp only [ho, hx, Instr.loadAt, Instr.sureAddr, Sem.run_bind, Sem.run_pure, Result.andThen_ok, hload]
  exact hK _ _ h
end Go.Dol
namespace Go.Proofs.Ytcefbhmmijmefaa
open Go.RowKit Go.Dol
set_option linter.unusedVariables false

def PadRel (r : List UInt8) (B : Nat) (w2 : World) (b : Value) (wr : World) : Prop :=
  ∃ (k : Nat) (l1 : List UInt8) (A : Option Addr) (c : Nat), b = .slice A l1.length c ∧ Hid (l1 = r ++ 1 :: List.replicate k 0) ∧ Hid (l1.length = r.length + 1 + k) ∧ k ≤ padN r.length ∧ wr.ownsRow B 5 1 (.slice A l1.length c) l1.length (bc l1) ∧ Below B w2 wr ∧ l1.length ≤ c ∧ c ≤ maxLen

/-- A row of bytes is not a state's block. -/
theorem seg_neS {w : World} {g base : Nat} {cs : List Value} {A : Option Addr} {n c : Nat} {xs : List Value} (hb : Blk w g 87 cs) (hs : Seg w base 5 1 A n c xs) : some g ≠ segRow A c := by
  intro he
  unfold segRow at he
  split at he
  · rcases hs.2.2.2 with h | ⟨g', off, cur, rfl, _, hh, _⟩
    · omega
    · have : g' = g := by simpa [segBlock] using he.symm
      subst this
      unfold Blk at hb
      rw [hb] at hh
      injection hh with hh
      injection hh with _ ht
      exact absurd ht (by decide)
  · cases he

def BlockRel (S0 : List Int) (r0 : List UInt8) (g : Nat) (w : World) (b : Value) (wr : World) : Prop :=
  ∃ (S : List Int) (r : List UInt8) (A : Option Addr) (c : Nat), b = .slice A r.length c ∧ Hid (absorb S r = absorb S0 r0) ∧ r.length % 32 = 0 ∧ Words S ∧ Blk wr g 87 (wc S ++ []) ∧ Seg wr w.heap.size 5 1 A r.length c (bc r) ∧ Below w.heap.size w wr

theorem index_state {S : List Int} {k x : Nat} (w : World) (hl : (wc S).length = 8) (hk : k < 8) (h : (wc S)[k]? = some (.int .u32 x)) :
    (Instr.index 87 (.agg (wc S).toArray) (.int .i64 k)).run Try.prog w = .ok (.int .u32 x) w := by
  have hu : Try.prog.underlying 87 = some (.array 8 67) := Try.underlying87
  have hu2 : Try.prog.underlying 67 = some (.int .u32) := Try.underlying67
  have hi : (Try.prog.info? 67).map (·.size) = some 1 := by kernel_rfl
  obtain ⟨i, hi1, hi2⟩ := Option.map_eq_some_iff.1 hi
  simp [Instr.index, asIntOf, run_underlying hu, run_underlying hu2, sizeOf, typeInfo, hi1, hi2, hk, Go.part, isAgg, h]
theorem outOf_take_length {S : List Int} (h : S.length = 8) {k : Nat} (hk : k ≤ 8) : (outOf (S.take k)).length = 4 * k := by
  have : ∀ l : List Int, (outOf l).length = 4 * l.length := by
    intro l
    induction l with
    | nil => rfl
    | cons x l ih => unfold outOf at ih ⊢; rw [List.flatMap_cons, List.length_append, leB_length, ih, List.length_cons]; omega
  rw [this, List.length_take, h]
  omega
theorem outOf_take_succ {S : List Int} {k : Nat} (hk : k < S.length) : outOf (S.take (k + 1)) = outOf (S.take k) ++ leB 4 (getI S k).toNat := by
  rw [List.take_succ_eq_append_getElem hk]
  unfold outOf
  rw [List.flatMap_append]
  simp [getI, List.getElem?_eq_getElem hk]

def OutRel (S : List Int) (w : World) (out i : Value) (wr : World) : Prop :=
  ∃ (k : Nat) (l : List UInt8) (A : Option Addr) (c : Nat), out = .slice A l.length c ∧ i = .int .i64 k ∧ k ≤ 8 ∧ Hid (l = outOf (S.take k)) ∧ wr.ownsRow w.heap.size 5 1 (.slice A l.length c) l.length (bc l) ∧ Below w.heap.size w wr ∧ l.length ≤ c ∧ c ≤ maxLen

set_option maxRecDepth 100000 in
set_option maxHeartbeats 1000000 in
theorem End_calls (g base : Nat) (l : List UInt8) (w : World) (hrun : RunOf w g base l) (hl : l.length ≤ 4611686018427387903) :
    Calls Try.prog 54 #[.pointer (some ⟨g, 0, none⟩)] w fun e w' => ∃ l', Hid (l' = sumOf l) ∧ e = .returned (.string ⟨l'.toArray⟩) ∧ Below w.heap.size w w' := by
  obtain ⟨S, r, A1, c1, hab, hS, hblk, hseg⟩ := hrun
  have hr32 := (absorb_rest first l).1
  rw [hab.out] at hr32
  simp only at hr32
  have hgl := hblk.lt
  have hlS : (wc S).length = 8 := by rw [wc_length]; exact hS.1
  obtain ⟨w2, hst, hb2, hg2⟩ := (Blk.new w 87 (wc [0, 0, 0, 0, 0, 0, 0, 0])).store (P := Try.prog) 0 (wc S) (by rw [hlS]; decide) (wc_one S)
  rw [List.take_zero, List.nil_append, List.drop_eq_nil_of_le (by rw [hlS]; decide)] at hb2
  have hbl2 : Below w.heap.size w w2 := below_of_grown (grown_step (grown_of_below ((Below.refl _ _).alloc (Nat.le_refl _) _) _) hg2) (Nat.le_refl _) (Nat.le_refl _)
  have hblk2 : Blk w2 g 90 (wc S ++ [.slice A1 r.length c1, .int .u64 (l.length : Nat), .bool true]) := hblk.below hbl2 hgl
  have hseg2 : Rd w2 w2.heap.size 1 A1 r.length (bc r) := (hseg.belowW hbl2).rd
  obtain ⟨hc8, hc9, hc10⟩ := run_cell hS (.slice A1 r.length c1) (.int .u64 (l.length : Nat)) (.bool true)
  have k10 : w.cell? ⟨g, 10, none⟩ = some (.bool true) := by rw [hblk.cell, hc10]
  have k8 : w2.cell? ⟨g, 8, none⟩ = some (.slice A1 r.length c1) := by rw [hblk2.cell, hc8]
  have hrl := hseg.2.1
  have hs2 := hb2.lt
  have hgl2 := hblk2.lt
  have hst' : (storeCells ⟨w.heap.size, 0, none⟩ (wc S)).run Try.prog (w.alloc (.cells #[.int .u32 0, .int .u32 0, .int .u32 0, .int .u32 0, .int .u32 0, .int .u32 0, .int .u32 0, .int .u32 0] 87)) = .ok () w2 := hst
  clear hc8 hc10 hst
  go_enter Try.func54, Try.ntmps54
  go_wp2_with (first | (refine wpList_load_cells rfl 87 _ rfl g 0 rfl _ _ (wc S) _ hblk (fun j v h => by rw [Nat.zero_add, List.getElem?_append_left (List.getElem?_eq_some_iff.1 h).1]; exact h) Try.underlying87 rfl (by rw [hlS]; kernel_rfl) ?_) | (at_builtin; refine app8 rfl (.tmp 23) (.tmp 27) rfl w2.heap.size _ 0 [] rfl (own_empty w2) w2.heap.size A1 r.length c1 r rfl (hseg2.alloc (Nat.le_refl _) _) (by omega) (by simp) ?_))
  intro l1 A2 c2 w3 e1 ho3 hb3 _ _ i1 i2
  have h3l : l1.length = r.length := by simp [e1.out]
  have H3 := Lib.hid h3l
  clear k8
  go_wp2_with (at_builtin; refine push8 rfl (.tmp 29) (.tmp 30) rfl w2.heap.size _ l1.length l1 rfl ho3 rfl (by decide) (by decide) (by omega) (Nat.le_trans (by simp) hb3.size) ?_)
  intro d l2 A3 c3 w4 ed e2 ho4 hb4 _ _ i3 i4
  have e2' : Hid (l2 = r ++ [1]) := by
    unfold Hid
    have := e2.out
    have h1 : d = 1 := byte_of (n := 1) ed rfl
    rw [this, h1, e1.out]
    try rfl
  have h4l : l2.length = r.length + 1 := by rw [e2'.out]; simp
  have H4 : Hid (l2.length = r.length + 1 + 0) := h4l
  have hb24 : Below w2.heap.size w2 w4 := (((Below.refl _ _).alloc (Nat.le_refl _) _).trans hb3).trans hb4
  clear h4l hb3 hb4 ho3 e2 ed e1 h3l H3
  go_wp2_with fail
  go_loopw [4] (fun b wr => PadRel r w2.heap.size w2 b wr) (fun b _ => r.length + 1 + padN r.length - lenV b)
  case atStart => exact ⟨0, l2, A3, c3, rfl, by simpa using e2', H4, Nat.zero_le _, ho4, hb24, i3, i4⟩
  case round =>
    clear ho4 hb24
    obtain ⟨k, l3, A4, c4, rfl, e3, h3l, hk, ho, hbl, j1, j2⟩ := hrel
    have hs := hbl.size
    have hrem : (l3.length : Int) % 32 = ((l3.length % 32 : Nat) : Int) := by omega
    obtain ⟨q, hq⟩ : ∃ q, q = l3.length % 32 := ⟨_, rfl⟩
    rw [← hq] at hrem
    have hpn : Hid (padN r.length = (24 + 64 - (r.length % 32 + 1)) % 32) := rfl
    have HQ := Lib.hid hq
    clear hq
    by_cases hq24 : q = 24
    · have HQ24 := Lib.hid hq24
      have hb24 : ((q : Int) != 24) = false := by rw [hq24]; rfl
      have hkl : Hid (k = padN r.length) := by
        unfold Hid
        have := HQ.out
        have := HQ24.out
        have := hpn.out
        have := h3l.out
        omega
      clear hq24
      have k9 : wr.cell? ⟨g, 9, none⟩ = some (.int .u64 (l.length : Nat)) := by rw [(hblk2.below hbl hgl2).cell, hc9]
      have h3b : l3.length ≤ 64 := by
        have := h3l.out
        have := hpn.out
        omega
      go_wp2_with fail
      refine (sumlaid_calls w2.heap.size A4 l3 c4 l.length 8 wr ho hs j1 j2 (by omega) (by omega) (by omega)).mono ?_
      rintro e w5 ⟨l4, A5, c5, e4, rfl, ho5, hb5, j3, j4⟩
      have h4l : l4.length = l3.length + 8 := by rw [e4.out, List.length_append, leB_length]
      have H4l := Lib.hid h4l
      have h4b : l4.length ≤ 72 := by omega
      have hs5 := hb5.size
      clear h4l ho k9
      go_wp2_with (at_builtin; refine appZ8 rfl (.tmp 45) (.const (.int .i64 32)) _ _ Try.underlying3 rfl w2.heap.size A5 l4.length c5 l4 rfl (Seg.of_own ho5) .i64 32 rfl (by omega) (by omega) (by omega) ?_)
      intro l6 A6 c6 w6 e6 hseg6 hb6 _ j5 j6
      have hbl6 : Below w2.heap.size w2 w6 := (hbl.trans hb5).trans hb6
      have e6' : Hid (l6 = r ++ padding r.length l.length) := by
        unfold Hid padding
        rw [e6.out, e4.out, e3.out, hkl.out]
        simp
      have hb26 : Blk w6 w.heap.size 87 (wc S ++ []) := hb2.below hbl6 hs2
      clear hb5 hb6 ho5 hbl j1 j2 j3 j4 h3b h4b hs hs5 hk e6
      go_wp2_with fail
      go_loopw [4] (fun b wr => BlockRel S (r ++ padding r.length l.length) w.heap.size w b wr) (fun b _ => lenV b)
      case atStart =>
        refine ⟨S, l6, A6, c6, rfl, by unfold Hid; rw [e6'.out], by rw [e6'.out, List.length_append]; exact padding_length _ _, hS, hb26, hseg6.lower (Nat.le_of_lt hs2), hbl2.trans (hbl6.mono (Nat.le_of_lt hs2))⟩
      case round =>
        clear hb26 hseg6 hbl6
        obtain ⟨S', r', A', c', rfl, habs, hmod, hS', hbk, hsg, hbel⟩ := hrel
        have hlc := hsg.2.1
        have hsb := hbel.size
        by_cases h32 : 32 ≤ r'.length
        · have hc32 : 32 ≤ c' := by omega
          have hmod' := Lib.hid hmod
          clear hmod
          go_wp2_with fail
          refine (take_calls w.heap.size 87 S' [] A' (r'.take 32) 32 c' wr hS' hbk (hsg.rd.head (l := r') h32) rfl hc32).mono ?_
          rintro e w7 ⟨rfl, hb7, hg7⟩
          have hs7 := hg7.size
          have hS7 := hS'.sumB (r'.take 32)
          have hfin : Hid (absorb (sumB S' (r'.take 32)) (r'.drop 32) = absorb S (r ++ padding r.length l.length)) := by
            unfold Hid
            rw [← habs.out, ← absorb_ge h32]
          have hsg7 : Seg w7 w.heap.size 5 1 A' r'.length c' (bc r') := Seg.keepR hsg hg7 (fun g' hg' e => seg_neS hbk hsg (by rw [hg', e]))
          have hbel7 : Below w.heap.size w w7 := hbel.trans (below_of_grown hg7 (Nat.le_refl _) hsb)
          have hcut := hsg7.cut (lo := 32) (hi := r'.length) h32 (Nat.le_refl _)
          rw [Nat.mul_one, Nat.mul_one, bc_drop, bc_take, List.take_of_length_le (by simp)] at hcut
          have hdl : (r'.drop 32).length = r'.length - 32 := by simp
          have HDL := Lib.hid hdl
          clear hdl
          by_cases hcap : c' = 32
          · rw [if_pos hcap] at hcut
            have HC := Lib.hid hcap
            go_wp2_with fail
            have hz : c' - 32 = 0 := by have := HC.out; omega
            rw [← HDL.out] at hcut ⊢
            rw [hz] at hcut
            refine ⟨⟨sumB S' (r'.take 32), r'.drop 32, A', 0, rfl, hfin, by rw [HDL.out]; have := hmod'.out; omega, hS7, hb7, hcut, hbel7⟩, ?_⟩
            show (r'.drop 32).length < r'.length
            rw [HDL.out]
            omega
          · rw [if_neg hcap] at hcut
            have HC := Lib.hid hcap
            go_wp2_with fail
            rw [← HDL.out] at hcut ⊢
            refine ⟨⟨sumB S' (r'.take 32), r'.drop 32, A'.map (·.add 32), c' - 32, rfl, hfin, by rw [HDL.out]; have := hmod'.out; omega, hS7, hb7, hcut, hbel7⟩, ?_⟩
            show (r'.drop 32).length < r'.length
            rw [HDL.out]
            omega
        · have h0 : r'.length = 0 := by omega
          have hr0 : r' = [] := List.eq_nil_of_length_eq_zero h0
          have hfin : Hid (S' = (absorb S (r ++ padding r.length l.length)).1) := by
            unfold Hid
            rw [← habs.out, hr0, absorb_lt (by simp)]
          have HR0 := Lib.hid h0
          clear hr0 hmod habs h32
          have hlS' : (wc S').length = 8 := by rw [wc_length]; exact hS'.1
          obtain ⟨wq, rfl⟩ : ∃ wq, wq = wr := ⟨_, rfl⟩
          go_wp2_with (refine wpList_load_cells rfl 87 _ rfl w.heap.size 0 rfl _ _ (wc S') _ hbk (fun j v h => by rw [Nat.zero_add, List.append_nil]; exact h) Try.underlying87 rfl (by rw [hlS']; kernel_rfl) ?_)
          go_loopw [5, 7, 56] (fun out _ i wr' => OutRel S' wq out i wr') (fun _ _ i _ => 8 - (intOf i).toNat)
          case atStart => exact ⟨0, [], none, 0, rfl, rfl, by omega, rfl, ⟨by simp [bc], .inl ⟨rfl, rfl⟩⟩, Below.refl _ _, Nat.le_refl _, by unfold maxLen; omega⟩
          case round =>
            clear hbk hsg
            obtain ⟨k', l7, A7, c7, rfl, rfl, hk8, e7, ho7, hb7, j7, j8⟩ := hrel
            have hs7 := hb7.size
            by_cases hlt : k' < 8
            · have hcell : (wc S')[k']? = some (.int .u32 (getI S' k')) := by
                have := wc_get hS' [] hlt
                rwa [List.append_nil] at this
              have hcell2 : (wc S').toArray[k']? = some (.int .u32 (getI S' k')) := by simpa using hcell
              have hlt2 : k' < (wc S').length := by omega
              have hcell3 : (wc S')[k'] = .int .u32 (getI S' k') := by
                rw [List.getElem?_eq_getElem hlt2] at hcell
                injection hcell
              have hrg := hS'.get hlt
              obtain ⟨x, hx⟩ : ∃ x : Nat, x = (getI S' k').toNat := ⟨_, rfl⟩
              have hxe : getI S' k' = (x : Int) := by omega
              rw [hxe] at hcell hcell2 hcell3
              have hx32 : x < 4294967296 := by omega
              have HX := Lib.hid hxe
              clear hx hxe hrg
              have hlS2 : (wc S').toArray.size = 8 := by simpa using hlS'
              have e7l : l7.length = 4 * k' := by rw [e7.out]; exact outOf_take_length hS'.1 (by omega)
              have E7L := Lib.hid e7l
              have h7b : l7.length ≤ 32 := by omega
              clear e7l
              have hix := index_state (S := S') wr hlS' hlt hcell
              go_wp2_with fail
              refine (sumlaid_calls wq.heap.size A7 l7 c7 x 4 wr ho7 hs7 j7 j8 (by omega) (by omega) (by omega)).mono ?_
              rintro e w8 ⟨l8, A8, c8, e8, rfl, ho8, hb8, j9, j10⟩
              go_wp2_with fail
              refine ⟨⟨k' + 1, l8, A8, c8, rfl, by go_num, by omega, ?_, ho8, hb7.trans hb8, j9, j10⟩, by simp [intOf]; omega⟩
              unfold Hid
              rw [e8.out, e7.out, outOf_take_succ (by rw [hS'.1]; exact hlt), HX.out]
              rfl
            · have hk88 : k' = 8 := by omega
              have HK8 := Lib.hid hk88
              have e8 : l7 = outOf S' := by rw [e7.out, hk88, List.take_of_length_le (by rw [hS'.1]; omega)]
              have E8 := Lib.hid e8
              clear e8 hk88
              go_wp2_with (refine conv8 rfl (.tmp 64) rfl wr.heap.size A7 l7.length c7 l7 rfl (Rd.of_own ho7) ?_)
              go_ret
              refine ⟨l7, ?_, rfl, hbel.trans (hb7.mono hsb)⟩
              unfold Hid
              rw [E8.out, hfin.out]
              unfold sumOf endOf
              rw [hab.out]
    · have hkl : k < padN r.length := by
        have := HQ.out
        have := hpn.out
        have := h3l.out
        omega
      have h3b : l3.length ≤ 64 := by
        have := h3l.out
        have := hpn.out
        omega
      have hb24 : ((q : Int) != 24) = true := by simp; omega
      go_wp2_with (at_builtin; refine push8 rfl (.tmp 36) (.tmp 37) rfl w2.heap.size _ l3.length l3 rfl ho rfl (by decide) (by decide) (by omega) (by omega) ?_)
      intro d l5 A5 c5 w5 ed e5 ho5 hb5 _ _ j3 j4
      go_wp2_with fail
      have h5l : l5.length = r.length + 1 + (k + 1) := by rw [e5.out, List.length_append, h3l.out]; rfl
      have hd0 : d = 0 := by
        have := ed.out
        exact UInt8.toNat_inj.1 (by simpa using this)
      refine ⟨⟨k + 1, l5, A5, c5, rfl, ?_, h5l, hkl, ho5, hbl.trans hb5, j3, j4⟩, ?_⟩
      · unfold Hid
        rw [e5.out, hd0, e3.out, List.replicate_succ']
        simp
      · show r.length + 1 + padN r.length - l5.length < r.length + 1 + padN r.length - l3.length
        rw [h5l, h3l.out]
        omega
end Go.Proofs.Ytcefbhmmijmefaa
