/- The walk of the document's Closure and Reaches. Conditions: fewer than 2^39 texts are to be looked at. -/
import Derived.Test.YteeajmgiamdfdaaRSort
import Derived.Test.YteeajmgiamdfdaaAppS
import Derived.Deep.LoopGhost
namespace Go.Proofs.Yteeajmgiamdfdaa
open Go.RowKit Go.Dol
set_option linter.unusedVariables false
theorem srtS_len (l : List ByteArray) : (srtS l).length = l.length := by
  have key : ∀ (l acc : List ByteArray), (l.foldl insS acc).length = acc.length + l.length := by
    intro l
    induction l with
    | nil => intro acc; rfl
    | cons x r ih => intro acc; rw [List.foldl_cons, ih, insS_len, List.length_cons]; omega
  exact (key l []).trans (by simp)
/-- The rounds of the document's search: at most so many are to come. -/
def RcRel (L : List Nd) (fr : List ByteArray) (w : World) (n : Nat) (vm vt : Value) (wr : World) : Prop :=
  ∃ (mt td : List ByteArray) (A : Option Addr) (c : Nat) (A2 : Option Addr) (c2 : Nat), vm = .slice A mt.length c ∧ vt = .slice A2 td.length c2 ∧ Hid (Srch L fr mt td) ∧ Hid mt.Nodup ∧ td.length + room L [] mt ≤ n ∧
    wr.ownsRow w.heap.size 9 1 (.slice A mt.length c) mt.length (pc mt) ∧ Seg wr w.heap.size 9 1 A2 td.length c2 (pc td) ∧ Hid (Apart A2 c2 (.slice A mt.length c)) ∧ Below w.heap.size w wr ∧ n ≤ 549755813888 ∧ mt.length + room L [] mt ≤ room L [] []
set_option maxRecDepth 100000 in
set_option maxHeartbeats 3200000 in
theorem refClosure_calls (A : Option Addr) (l : List NdA) (c : Nat) (A2 : Option Addr) (fr : List ByteArray) (c2 : Nat) (w : World) (h : NdsOk w A l) (hr2 : Rd w w.heap.size 1 A2 fr.length (pc fr)) (hl : fr.length + room (l.map NdA.f) [] [] ≤ 549755813888) :
    Calls Try.prog 15 #[.slice A l.length c, .slice A2 fr.length c2] w (RetIds w (Rch (l.map NdA.f) fr)) := by
  have hfl : fr.length ≤ 549755813888 := by omega
  have hll := h.len
  go_enter Try.func15, Try.ntmps15
  go_wp2_with (at_builtin; refine appVl2 rfl (.tmp 9) (.tmp 10) 26 9 _ 16 rfl Try.underlying26 info_string rfl w.heap.size (.slice none 0 0) 0 [] rfl (World.ownsRow_nil _ _ _ _) w.heap.size _ fr.length c2 (pc fr) rfl hr2 (pc_one _) (by unfold maxLen; omega) (by omega) (Nat.le_refl _) ?_; intro A6 c6 w6 z1 z2 z3 z6 z4 z5; simp only [Nat.zero_add, List.nil_append] at z1 z4)
  go_loopg [5, 6, 7, 8] (fr.length + room (l.map NdA.f) [] []) (fun k vm vt id i wr => RcRel (l.map NdA.f) fr w k vm vt wr)
  case atStart => exact ⟨[], fr, none, 0, A6, c6, rfl, rfl, Srch.start _ _, List.nodup_nil, Nat.le_refl _, World.ownsRow_nil _ _ _ _, Seg.of_own z1, Apart.nil _ _, z2, hl, by simp⟩
  case round =>
    clear z1 z2 z3 z4 z5 z6
    obtain ⟨mt, td, A5, c5, A7, c7, rfl, rfl, hS, hND, hn, hM, hT, hap, hb, hgk, hrm⟩ := hrel
    have hs := hb.size
    have hrT := hT.rd
    rcases Nat.eq_zero_or_pos td.length with h0 | h0
    · obtain rfl : td = [] := List.eq_nil_of_length_eq_zero h0
      have HSo := Lib.hid (refSorted_calls A5 mt c5 wr (Rd.of_own hM) (by omega))
      clear hM hT hrT hap h0
      go_wp2_with fail
      refine HSo.out.mono ?_
      rintro e w9 ⟨ys, A9, c9, rfl, hys, ho9, hb9⟩
      obtain ⟨hs1, hs2⟩ := srtS_ok hND.out
      have HS1 : Hid (Strict ys) := by unfold Hid; rw [hys.out]; exact hs1
      have HS2 : Hid (∀ x, x ∈ ys ↔ Rch (l.map NdA.f) fr x) := fun x => by rw [hys.out]; exact (hs2 x).trans (hS.out.done x)
      have hyl : ys.length ≤ 549755813888 := by
        have : ys.length = mt.length := by rw [hys.out]; exact srtS_len mt
        omega
      clear hs1 hs2
      go_wp2_with fail
      go_ret
      exact ⟨ys, A9, c9, rfl, HS1, HS2, hyl, World.ownsRow.mono ho9 hs, hb.next hb9⟩
    · obtain ⟨x, hx⟩ : ∃ x, td[0]? = some x := ⟨td[0], List.getElem?_eq_getElem h0⟩
      have hTc := hT.2
      obtain ⟨m, A8, c8, hm, hma, hmb, hrm8, hc8, hsb8, hsg8, hsl⟩ := slT_from (w := wr) (k := 1) 1 rfl hrT (by omega) hTc.1 hTc.2.1
      obtain ⟨bb, off, rfl, hbb, hcell⟩ := hrT.at_ h0
      have cx : wr.cell? ⟨bb, off, none⟩ = some (.string x) := hcell 0 _ (by simp [pc, hx])
      have HT : Hid (td = x :: m) := by
        unfold Hid
        rw [hm.out]
        have := List.drop_eq_getElem_cons (i := 0) (l := td) h0
        rw [List.drop_zero] at this
        rw [List.getElem?_eq_getElem h0] at hx
        injection hx with hx
        rw [← hx]
        exact this
      have hi0 : (0 : Int) < (td.length : Int) := by omega
      have hd : decide (0 < (td.length : Int)) = true := decide_eq_true hi0
      have hdn : decide (0 < td.length) = true := decide_eq_true h0
      have hwr := h.below hb
      have HF := Lib.hid (find_calls A l c x wr wr.heap.size hwr.rd (by omega))
      have hS8 : Seg wr w.heap.size 9 1 A8 m.length c8 (pc m) := hsg8.out _ _ hT
      have hap8 : Hid (Apart A8 c8 (.slice A5 mt.length c5)) := hap.out.piece (by omega) hsb8
      clear hcell hx hrT hrm8 hsb8 hsg8
      go_wp2_with fail
      refine HF.out.mono ?_
      rintro e w9 ⟨rfl, hfd⟩
      have hdj : (0 : Int) ≤ 0 := by omega
      rcases hfd with ⟨rfl, hpn⟩ | ⟨k, nd, rfl, hkl, hnd, hps⟩
      · have HS2 : Hid (Srch (l.map NdA.f) fr mt m) := hS.out.pass (x := x) (fun y => by rw [HT.out]; simp) (.inl hpn.out)
        go_wp2_with fail
        go_roundg (gk - 1)
        case measure => omega
        case rel => exact ⟨mt, m, A5, c5, A8, c8, rfl, rfl, HS2, hND, by omega, hM, hS8, hap8, hb, by omega, hrm⟩
      · have hkn : decide ((k : Int) < 0) = false := decide_eq_false (by omega)
        have hkn' : ¬ (k : Int) < 0 := by omega
        have HH := Lib.hid (refHas_calls A5 mt c5 x w9 w9.heap.size (Rd.of_own hM) (by omega))
        go_wp2_with fail
        refine HH.out.mono ?_
        rintro e v1 ⟨v, nq, rfl, hv, hw1⟩
        have hM1 : v1.ownsRow w.heap.size 9 1 (.slice A5 mt.length c5) mt.length (pc mt) := by rw [hw1]; exact hM
        have hS1 : Seg v1 w.heap.size 9 1 A8 m.length c8 (pc m) := by rw [hw1]; exact hS8.drewN nq
        have hb1 : Below w.heap.size w v1 := by rw [hw1]; exact below_drewN hb nq
        clear hw1 hM hS8 hb hT hTc hwr HF HH cx hbb
        cases v with
        | true =>
          have hxm : x ∈ mt := hv.1 rfl
          have HS2 : Hid (Srch (l.map NdA.f) fr mt m) := hS.out.pass (x := x) (fun y => by rw [HT.out]; simp) (.inr hxm)
          clear hxm hv
          go_wp2_with fail
          go_roundg (gk - 1)
          case measure => omega
          case rel => exact ⟨mt, m, A5, c5, A8, c8, rfl, rfl, HS2, hND, by omega, hM1, hS1, hap8, hb1, by omega, hrm⟩
        | false =>
          have hxm : x ∉ mt := fun h => by simpa using hv.2 h
          have HS2 : Hid (Srch (l.map NdA.f) fr (mt ++ [x]) (m ++ nd.ps)) := hS.out.meet (x := x) hps.out (fun y => by simp [or_comm]) (fun y hy => by rw [HT.out] at hy; simp at hy ⊢; rcases hy with h | h; exact .inl h; exact .inr (.inl h)) (fun y hy => by rw [HT.out]; simp at hy ⊢; rcases hy with h | h; exact .inl (.inr h); exact .inr h) (fun y hy => by simp [hy]) (by rw [HT.out]; simp)
          have HN2 : Hid (mt ++ [x]).Nodup := by
            unfold Hid
            rw [List.nodup_append]
            exact ⟨hND.out, by simp, fun a ha b hb => by rw [List.mem_singleton.1 hb]; exact fun e => hxm (by rw [← e]; exact ha)⟩
          have hrm2 := room_meet (l.map NdA.f) [] mt (mt ++ [x]) x nd.ps hps.out List.not_mem_nil hxm (fun y hy => by simp [hy]) (by simp)
          obtain ⟨nb, no, rfl, hnb, hncell⟩ := h.rd.at_ (by omega)
          have q1 : w.cell? ⟨nb, no + k * 2 + 1, none⟩ = some (.slice nd.A nd.ps.length nd.c) := hncell _ _ (nc_get hnd.out).2
          obtain ⟨hpr, hpc1, hpc2⟩ := h.ps nd (List.mem_of_getElem? hnd.out)
          have hlm : (mt ++ [x]).length = mt.length + 1 := by rw [List.length_append]; rfl
          have hlp : (m ++ nd.ps).length = m.length + nd.ps.length := List.length_append
          have hdk : (k : Int) < (l.length : Int) := by omega
          have hk0 : (0 : Int) ≤ (k : Int) := by omega
          have hs1 := hb1.size
          have HLM := Lib.hid hlm
          have HLP := Lib.hid hlp
          clear hv hxm hS hncell hlm hlp
          have hn1 := Rd.new1 v1 9 (.string x)
          go_wp2_with (at_builtin; first
            | (refine appVl2 rfl (.tmp 30) (.tmp 32) 26 9 _ 16 rfl Try.underlying26 info_string rfl w.heap.size _ mt.length (pc mt) rfl (hM1.alloc _) (v1.heap.size + 1) _ 1 1 [Value.string x] rfl hn1 (by simp [Value.oneCell']) (by unfold maxLen; omega) (by omega) (by simp; omega) ?_; intro A11 c11 w11 y1 y2 y3 y6 y4 y5; have hb11 := (hb1.alloc hs1 (.cells #[Value.string x] 9)).trans y2; have q11 : w11.cell? ⟨nb, no + k * 2 + 1, none⟩ = some (.slice nd.A nd.ps.length nd.c) := (hb11.cell (p := ⟨nb, no + k * 2 + 1, none⟩) hnb).trans q1; have hpr11 := hpr.belowW hb11 (Nat.le_refl _))
            | (refine appSl rfl (.tmp 34) (.tmp 39) 26 9 _ 16 rfl Try.underlying26 info_string rfl w.heap.size A8 m.length c8 (pc m) rfl ((hS1.alloc _).keepR y3 (fun g hg => hap8.out g hg)) w.heap.size _ nd.ps.length nd.c (pc nd.ps) rfl hpr11 (pc_one _) (by unfold maxLen; omega) (by omega) hb11.size ?_; intro A12 c12 w12 x1 x2 x3 x6 x4 x5))
          have hE1 : Apart A8 c8 (.slice A11 (mt.length + 1) c11) := hap8.out.app (v := .slice A5 mt.length c5) hS1 (H := (v1.alloc (.cells #[Value.string x] 9)).heap.size) (by simp) y6.out
          have hE2 : Apart A12 c12 (.slice A11 (mt.length + 1) c11) := hE1.seg y1 (x6.out.imp id fun h => h.2)
          have y1' : w12.ownsRow w.heap.size 9 1 (.slice A11 (mt.length + 1) c11) (mt.length + 1) (pc mt ++ [Value.string x]) := y1.kept x3 (by
            by_cases hc : segRow A8 c8 = none
            · rw [hc]
              cases (Value.slice A11 (mt.length + 1) c11).ownBlock <;> simp
            · obtain ⟨g, hg⟩ := Option.ne_none_iff_exists'.1 hc
              rw [hg]
              exact .inr fun e => hE1 g hg e.symm)
          go_roundg (gk - 1)
          case measure => omega
          case rel =>
            have e1 := HLM.out
            have e2 := HLP.out
            refine ⟨mt ++ [x], m ++ nd.ps, A11, c11, A12, c12, by rw [e1], by rw [e2], HS2, HN2, by omega, ?_, ?_, ?_, hb11.trans x2, by omega, by omega⟩
            · rw [e1, pc_append]
              exact y1'
            · rw [e2, pc_append]
              exact x1
            · rw [e1]
              exact hE2
set_option maxRecDepth 100000 in
set_option maxHeartbeats 1600000 in
theorem refReaches_calls (A : Option Addr) (l : List NdA) (c : Nat) (a b : ByteArray) (w : World) (h : NdsOk w A l) (hl : 1 + room (l.map NdA.f) [] [] ≤ 549755813888) :
    Calls Try.prog 16 #[.slice A l.length c, .string a, .string b] w fun e w' => ∃ v : Bool, e = .returned (.bool v) ∧ (v = true ↔ Rch (l.map NdA.f) [a] b) ∧ Below w.heap.size w w' := by
  have hx := Rd.new1 w 9 (.string a)
  have hbx : Below w.heap.size w (w.alloc (.cells #[.string a] 9)) := (Below.refl _ _).alloc (Nat.le_refl _) _
  have hC := refClosure_calls A l c (some ⟨w.heap.size, 0, none⟩) [a] 1 (w.alloc (.cells #[.string a] 9)) (h.below hbx) (by simpa [pc] using hx) (by simpa using hl)
  have HC := Lib.hid hC
  clear hC hx
  go_enter Try.func16, Try.ntmps16
  go_wp2_with fail
  refine HC.out.mono ?_
  rintro e w2 ⟨L, A4, c4, rfl, hst, hmem, hll, ho, hb2⟩
  have HH := Lib.hid (refHas_calls A4 L c4 b w2 w2.heap.size (Rd.of_own ho) (by omega))
  have hb02 := hbx.next hb2
  clear HC hb2 hbx ho
  go_wp2_with fail
  refine HH.out.mono ?_
  rintro e w3 ⟨v, nq, rfl, hv, rfl⟩
  have HV : Hid (v = true ↔ Rch (l.map NdA.f) [a] b) := hv.trans (hmem.out b)
  clear hv
  go_wp2_with fail
  go_ret
  exact ⟨v, rfl, HV.out, below_drewN hb02 nq⟩
end Go.Proofs.Yteeajmgiamdfdaa
