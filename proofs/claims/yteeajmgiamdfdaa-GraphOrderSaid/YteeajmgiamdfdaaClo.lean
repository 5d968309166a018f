/- The walks of the program's Closure. Conditions: fewer than 2^39 texts are to be looked at; ids that memory holds. -/
import Derived.Test.YteeajmgiamdfdaaSortK
namespace Go.Proofs.Yteeajmgiamdfdaa
open Go.RowKit Go.Dol
set_option linter.unusedVariables false
/-- Nodes that fit memory. -/
structure NdsOk (w : World) (A : Option Addr) (l : List NdA) : Prop where
  rd : Rd w w.heap.size 2 A l.length (nc l)
  ps : Nds w w.heap.size l
  len : l.length ≤ 1099511627776
  ids : ∀ x ∈ l, x.n.size ≤ maxLen
  par : ∀ x ∈ l, ∀ y ∈ x.ps, y.size ≤ maxLen
theorem Rd.more' {w : World} {B B' size n : Nat} {A : Option Addr} {xs : List Value} (h : Rd w B size A n xs) (hB : B ≤ B') : Rd w B' size A n xs := ⟨h.len, fun h0 => by
  obtain ⟨b, off, h1, h2, h3⟩ := h.at_ h0
  exact ⟨b, off, h1, by omega, h3⟩⟩
theorem NdsOk.below {w w' : World} {A : Option Addr} {l : List NdA} (h : NdsOk w A l) (hb : Below w.heap.size w w') : NdsOk w' A l :=
  ⟨Rd.more' (h.rd.belowW hb (Nat.le_refl _)) hb.size, fun x hx => ⟨Rd.more' ((h.ps x hx).1.belowW hb (Nat.le_refl _)) hb.size, (h.ps x hx).2⟩, h.len, h.ids, h.par⟩
set_option maxRecDepth 100000 in
set_option maxHeartbeats 1600000 in
theorem Closure_calls (A : Option Addr) (l : List NdA) (c : Nat) (A2 : Option Addr) (fr : List ByteArray) (c2 : Nat) (w : World) (h : NdsOk w A l) (hr2 : Rd w w.heap.size 1 A2 fr.length (pc fr)) (hz : ∀ x ∈ fr, x.size ≤ maxLen) (hl : fr.length + room (l.map NdA.f) [] [] ≤ 549755813888) :
    Calls Try.prog 14 #[.slice A l.length c, .slice A2 fr.length c2] w (RetIds w (Rch (l.map NdA.f) fr)) := by
  have HKn := Lib.hid (know_calls A l c w h.rd h.len h.ids)
  go_enter Try.func14, Try.ntmps14
  go_wp2_with fail
  refine HKn.out.mono ?_
  rintro e w1 ⟨kb, rfl, hK, hkb, hb1⟩
  have h1 := h.below hb1
  have HRc := Lib.hid (reached_calls l kb A2 fr c2 w1 hK h1.ps (Rd.more' (hr2.belowW hb1 (Nat.le_refl _)) hb1.size) hl hz h1.par)
  clear hK
  go_wp2_with fail
  refine HRc.out.mono ?_
  rintro e w2 ⟨mt, rfl, hM, hmt, hb2, hml⟩
  have hb02 := hb1.next hb2
  have HKs := Lib.hid (keysMet (some w1.heap.size) w2)
  have HSo := Lib.hid (sortedMet hM hml)
  have HMT := Lib.hid hmt
  clear hmt hM
  go_wp2_with fail
  refine HKs.out.mono ?_
  rintro e w3 ⟨rfl, rfl⟩
  go_wp2_with fail
  refine HSo.out.mono ?_
  rintro e w4 ⟨L, A4, c4, rfl, hst, hmem, hll, ho, hb4⟩
  go_wp2_with fail
  go_ret
  exact ⟨L, A4, c4, rfl, hst, fun x => (hmem.out x).trans (HMT.out x), hll, World.ownsRow.mono ho hb02.size, hb02.next hb4⟩
end Go.Proofs.Yteeajmgiamdfdaa
