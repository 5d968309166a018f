/- The walk of the layer 'disk': its names, in order. Conditions: a disk in good order. The walks of the document's 'disk', its first part: names, how its disk lies, where a name stands. Conditions: lengths below 2^47. The walks of the document's 'disk', its second part: how its disk lies, where a name stands, what is free. Conditions: lengths below 2^47. The walks of the document's 'disk', its sixth part: may a file be touched, a cut, switched on. Conditions: lengths below 2^47. The walks of the document's 'disk', its seventh part: a raw write; Sync. Conditions: a disk in good order. The walks of the document's 'disk', its third part: what is free; a file is put in its place. Conditions: lengths below 2^46. The walks of the document's 'disk', its fourth part: a file is put in its place, or is gone. Conditions: lengths below 2^46. The walks of the document's 'disk', its tenth part: Read. Co -/
import Derived.Test.YtecpbcmpncgokaaGreatOkL
import Derived.Test.YtecpbcmpncgokaaGreatIter
import Derived.Test.YtecpbcmpncgokaaGreatDiskLaw
import Derived.Test.YtecpbcmpncgokaaGreatShelfA
import Derived.Test.YtecpbcmpncgokaaGreatDisk2
import Derived.Laws.Cover1
import Derived.Deep.QuietTactic
import Derived.BigQuiet
import Derived.Test.YtecpbcmpncgokaaGreatWordsA
import Derived.Deep.Onto
import Derived.Deep.RegionHeld3
import Derived.Test.YtecpbcmpncgokaaGreatDiskM
namespace Go.Dol
open Go.RowKit Go.MapKept Go.Maps
open Go.WideElems (Fit rd rg)
set_option linter.unusedVariables false
/-- Names in order, sorted: themselves. -/
theorem sorted_names {l : List Fil} (h : InOrder l) {ss : List (List UInt8)} (hp : ss.Perm (l.map fun f => f.1.data.toList)) : (ss.mergeSort fun x y => decide (x ≤ y)) = l.map fun f => f.1.data.toList := by
  have tr : ∀ a b c : List UInt8, decide (a ≤ b) = true → decide (b ≤ c) = true → decide (a ≤ c) = true := fun a b c h1 h2 => decide_eq_true (List.le_trans (of_decide_eq_true h1) (of_decide_eq_true h2))
  have to : ∀ a b : List UInt8, (decide (a ≤ b) || decide (b ≤ a)) = true := fun a b => by
    rcases List.le_total a b with h | h <;> simp [h]
  refine List.Perm.eq_of_pairwise (le := fun a b => decide (a ≤ b) = true) (fun a b _ _ h1 h2 => List.le_antisymm (of_decide_eq_true h1) (of_decide_eq_true h2)) (List.pairwise_mergeSort tr to ss) ?_ ((List.mergeSort_perm ss _).trans hp)
  rw [List.pairwise_map]
  exact h.imp fun {a b} hab => by
    unfold sLt at hab
    exact decide_eq_true (List.le_of_lt (of_decide_eq_true hab))
end Go.Dol
namespace Go.Proofs.YtecpbcmpncgokaaGreat
open Go.RowKit Go.Dol
set_option linter.unusedVariables false
/-- What the names' listing hands back. -/
def RetNames (w : World) (D : Dk) (e : Ending) (w' : World) : Prop :=
  ∃ A c, e = .returned (.slice A D.l.length c) ∧ w'.ownsRow w.heap.size 9 1 (.slice A D.l.length c) D.l.length (sc (D.l.map Prod.fst)) ∧ Below w.heap.size w w'
section
variable {w : World} {g m : Nat} {D : Dk}
theorem Dsk.sorted (h : Dsk w g m D) (hK : OkL D) : Calls Tryz.prog 132 #[.func (.func 206) #[] #[.pointer (some ⟨w.heap.size, 0, none⟩)]] (w.alloc (.cells #[.map (some m)] 140)) (RetNames w D) := by
  obtain ⟨al, hB, hM, M, hal, hby, hp⟩ := h
  have hlen : al.length = D.l.length := by rw [hal, List.length_map, ← hp.length_eq, List.length_map]
  have hle := hK.len
  obtain ⟨D0, hown, hsz, hkeys⟩ := hM.owns Tryz.underlying9 (by unfold maxLen; omega)
  refine ((callsIn_wide (n := 5)).1 (sortedKeys m al.length D0 _ w hown (by unfold maxLen; omega) (by omega))).mono ?_
  rintro e w' ⟨v, ss, rfl, hS, hrow, _, hb⟩
  have hns : al.map Prod.fst = ((M.map Prod.fst).map Prod.fst).map Value.string := by
    rw [hal, List.map_map, List.map_map, List.map_map]
    rfl
  have hperm : ss.Perm (D.l.map fun f => f.1.data.toList) := by
    refine hS.trans ((hkeys _ hns).trans ?_)
    rw [List.map_map]
    exact hp.map _
  have hsl : ss.length = D.l.length := by rw [hperm.length_eq, List.length_map]
  rw [sorted_names hK.ord hperm, List.map_map, hsl] at hrow
  have hxs : (D.l.map (Go.Proofs.encStr ∘ fun f => f.1.data.toList)) = sc (D.l.map Prod.fst) := by
    unfold sc
    rw [List.map_map]
    exact List.map_congr_left fun f _ => rfl
  rw [hxs] at hrow
  have hbl : Below w.heap.size w w' := ((Below.refl _ _).alloc (Nat.le_refl _) _).trans (hb.mono (by simp))
  have hrow' : w'.ownsRow w.heap.size 9 1 v D.l.length (sc (D.l.map Prod.fst)) := World.ownsRow.mono hrow (by simp)
  have hv : ∃ A c, v = .slice A D.l.length c := by
    rcases hrow'.2 with ⟨rfl, h0⟩ | ⟨q, cap, cur, rfl, _⟩
    · exact ⟨none, 0, by rw [h0]⟩
    · exact ⟨_, cap, rfl⟩
  obtain ⟨A, c, rfl⟩ := hv
  exact ⟨A, c, rfl, hrow', hbl⟩
theorem keys_calls (mb : Option Nat) (W : World) : Calls Tryz.prog 133 #[.map mb] W fun e w' => e = .returned (.func (.func 206) #[] #[.pointer (some ⟨W.heap.size, 0, none⟩)]) ∧ w' = W.alloc (.cells #[.map mb] 140) :=
  (callsIn_wide (n := 5)).1 (mapsKeys mb W)
set_option maxRecDepth 100000 in
set_option maxHeartbeats 800000 in
theorem Names_callsL (h : Dsk w g m D) (hK : OkL D) : Calls Tryz.prog 59 #[.pointer (some ⟨g, 0, none⟩)] w (RetNames w D) := by
  obtain ⟨k0, k1, k2, k3, k4, k5⟩ := h.cells
  have HS := Lib.hid (h.sorted hK)
  have HK := Lib.hid (keys_calls (some m) w)
  go_enter Tryz.func59, Tryz.ntmps59
  go_wp2_with (first
    | (go_at_call 88; refine (made_calls h).mono ?_; rintro e w' ⟨rfl, hw⟩; obtain rfl := hw.symm)
    | (go_at_call 133; refine HK.out.mono ?_; rintro e w' ⟨rfl, rfl⟩)
    | (go_at_call 132; refine HS.out.mono ?_; rintro e w' ⟨A, c, rfl, ho, hb⟩))
  go_ret
  exact ⟨A, c, rfl, ho, hb⟩
end
end Go.Proofs.YtecpbcmpncgokaaGreat
namespace Go.Dol
open Go.RowKit
theorem str_getD (s : ByteArray) {k : Nat} (h : k < s.size) : s[k]'h = s.data.toList[k]'(by rw [str_len]; exact h) := rfl
end Go.Dol
namespace Go.Proofs.YtecpbcmpncgokaaGreat
open Go.RowKit Go.Dol
set_option linter.unusedVariables false
end Go.Proofs.YtecpbcmpncgokaaGreat

namespace Go.Proofs.YtecpbcmpncgokaaGreat
open Go.RowKit Go.Dol
set_option linter.unusedVariables false
section
variable {w w' : World} {g : Nat} {D : Dk}
end
end Go.Proofs.YtecpbcmpncgokaaGreat

namespace Go.Proofs.YtecpbcmpncgokaaGreat
open Go.RowKit Go.Dol
set_option linter.unusedVariables false
section
variable {w w' : World} {g : Nat} {D : Dk}
end
end Go.Proofs.YtecpbcmpncgokaaGreat

namespace Go.Dol
open Go.RowKit
set_option linter.unusedVariables false
end Go.Dol
namespace Go.Proofs.YtecpbcmpncgokaaGreat
open Go.RowKit Go.Dol
set_option linter.unusedVariables false
section
variable {w w' : World} {g : Nat} {D : Dk}
end
end Go.Proofs.YtecpbcmpncgokaaGreat

namespace Go.Dol
open Go.RowKit
end Go.Dol
namespace Go.Proofs.YtecpbcmpncgokaaGreat
open Go.RowKit Go.Dol
set_option linter.unusedVariables false
section
variable {w w' : World} {g : Nat} {D : Dk}
end
end Go.Proofs.YtecpbcmpncgokaaGreat

namespace Go.Proofs.YtecpbcmpncgokaaGreat
open Go.RowKit Go.Dol
set_option linter.unusedVariables false
section
variable {w w' : World} {g : Nat} {D : Dk}

end
end Go.Proofs.YtecpbcmpncgokaaGreat

namespace Go.Dol
open Go.RowKit
end Go.Dol
namespace Go.Proofs.YtecpbcmpncgokaaGreat
open Go.RowKit Go.Dol
set_option linter.unusedVariables false
section
variable {w w' : World} {g : Nat} {D : Dk}
end
end Go.Proofs.YtecpbcmpncgokaaGreat

namespace Go.Proofs.YtecpbcmpncgokaaGreat
open Go.RowKit Go.Dol
set_option linter.unusedVariables false
section
variable {w w' : World} {g : Nat} {D : Dk}
end
end Go.Proofs.YtecpbcmpncgokaaGreat

namespace Go.Proofs.YtecpbcmpncgokaaGreat
open Go.RowKit Go.Dol
set_option linter.unusedVariables false
section
variable {w w' : World} {g : Nat} {D : Dk}
end
end Go.Proofs.YtecpbcmpncgokaaGreat

namespace Go.Dol
open Go.RowKit
end Go.Dol
namespace Go.Proofs.YtecpbcmpncgokaaGreat
open Go.RowKit Go.Dol
set_option linter.unusedVariables false
section
variable {w w' : World} {g : Nat} {D : Dk}
end
end Go.Proofs.YtecpbcmpncgokaaGreat

namespace Go.Dol
open Go.RowKit
end Go.Dol
namespace Go.Proofs.YtecpbcmpncgokaaGreat
open Go.RowKit Go.Dol
set_option linter.unusedVariables false
section
variable {w w' : World} {g : Nat} {D : Dk}
end
end Go.Proofs.YtecpbcmpncgokaaGreat

namespace Go.Dol
open Go.RowKit
end Go.Dol
namespace Go.Proofs.YtecpbcmpncgokaaGreat
open Go.RowKit Go.Dol
set_option linter.unusedVariables false
theorem nameB_le {n : ByteArray} (h : nameB n = true) : n.size ≤ 200 := by
  unfold nameB at h
  simp only [Bool.and_eq_true, decide_eq_true_eq] at h
  exact h.1.2
section
variable {w w' : World} {g : Nat} {D : Dk}
end
end Go.Proofs.YtecpbcmpncgokaaGreat

namespace Go.Proofs.YtecpbcmpncgokaaGreat
open Go.RowKit Go.Dol
set_option linter.unusedVariables false
section
variable {w : World} {g : Nat} {D : Dk}
end
end Go.Proofs.YtecpbcmpncgokaaGreat
namespace Go.Dol
open Go.RowKit
set_option linter.unusedVariables false
/-- A sweep over names. -/
def sweepL (D : Dk) : List ByteArray → Int × Dk
  | [] => (0, D)
  | n :: r => if endsT n = true then (if (remD D n).1 ≠ 0 then remD D n else sweepL (remD D n).2 r) else sweepL D r
def sweepD (D : Dk) : Int × Dk := sweepL D (D.l.map Prod.fst)
theorem sweepL_cons (D : Dk) (n : ByteArray) (r : List ByteArray) : sweepL D (n :: r) = if endsT n = true then (if (remD D n).1 ≠ 0 then remD D n else sweepL (remD D n).2 r) else sweepL D r := rfl
end Go.Dol
namespace Go.Proofs.YtecpbcmpncgokaaGreat
open Go.RowKit Go.Dol
set_option linter.unusedVariables false
section
variable {w w' : World} {g m gr : Nat} {D : Dk}
theorem names_small {L B : Nat} (h : OkG L B D) : ∀ n ∈ D.l.map Prod.fst, n.size ≤ 200 := by
  intro n hn
  obtain ⟨f, hf, rfl⟩ := List.mem_map.1 hn
  exact nameB_le (h.names f hf)
theorem sc_get {l : List ByteArray} {k : Nat} {x : ByteArray} (h : l[k]? = some x) : (sc l)[k]? = some (.string x) := by simp [sc, h]
/-- The rounds of a sweep: so many names are swept. -/
def SwRel (D : Dk) (ns : List ByteArray) (A : Option Addr) (c g m : Nat) (w : World) (i : Value) (wr : World) : Prop :=
  ∃ (k : Nat) (E : Dk), i = .int .i64 k ∧ k ≤ ns.length ∧ Hid (sweepL D ns = sweepL E (ns.drop k)) ∧ OkW E ∧ Dsk wr g m E ∧ wr.ownsRow w.heap.size 9 1 (.slice A ns.length c) ns.length (sc ns) ∧ Tw w wr g m
set_option maxRecDepth 100000 in
set_option maxHeartbeats 4000000 in
theorem Sweep_calls (h : Dsk w g m D) (hK : OkW D) : Calls Tryz.prog 48 #[.pointer (some ⟨g, 0, none⟩)] w (RetOp w g m (sweepD D)) := by
  have hRd := Read_calls h hK.ord ⟨#[126]⟩ (fun b hb => hK.small' hb)
  obtain ⟨rd, ec, hrd⟩ : ∃ rd ec, readD D ⟨#[126]⟩ = (rd, ec) := ⟨_, _, rfl⟩
  have hec : (ec == 1) = false := by
    have hn : nameB ⟨#[126]⟩ = true := by decide
    unfold readD at hrd
    rw [if_neg (by rw [hn]; decide)] at hrd
    cases hl : lookF D.l ⟨#[126]⟩ with
    | none => rw [hl] at hrd; injection hrd with _ hrd; rw [← hrd]; rfl
    | some b => rw [hl] at hrd; injection hrd with _ hrd; rw [← hrd]; rfl
  rw [hrd] at hRd
  have HRd := Lib.hid hRd
  obtain ⟨ns, hns⟩ : ∃ ns, ns = D.l.map Prod.fst := ⟨_, rfl⟩
  have hnl : D.l.length = ns.length := by rw [hns, List.length_map]
  have hsm := names_small hK
  rw [← hns] at hsm
  have hlen := hK.len
  have HNL := Lib.hid hnl
  have HSW : Hid (sweepD D = sweepL D ns) := by unfold Hid; rw [hns]; rfl
  clear hRd hrd
  go_enter Tryz.func48, Tryz.ntmps48
  go_wp2_with fail
  refine HRd.out.mono ?_
  rintro e w1 ⟨l1, A1, c1, _, rfl, _, hb1⟩
  have h1 := h.below hb1
  have HNm := Lib.hid (Names_callsL h1 hK.toL)
  go_wp2_with fail
  refine HNm.out.mono ?_
  rintro e w2 ⟨A, c, rfl, ho2, hb2⟩
  have hb02 := hb1.next hb2
  have h2 := h1.below hb2
  have hs1 := hb1.size
  rw [← hns] at ho2
  rw [hnl] at ho2 ⊢
  have ho2' := World.ownsRow.mono ho2 hs1
  have ht2 : Tw w w2 g m := Tw.below hb02
  have hnle : ns.length ≤ 3518437208880 := by omega
  clear ho2 hns hnl
  go_wp2_with fail
  go_loopw [18] (fun i wr => SwRel D ns A c g m w i wr) (fun i _ => ns.length - (intOf i).toNat)
  case atStart => exact ⟨0, D, rfl, Nat.zero_le _, rfl, hK, h2, ho2', ht2⟩
  case round =>
    clear h2 ho2' ht2 h1 hb1 hb2 hb02 hs1
    obtain ⟨k, E, rfl, hk, hsw, hKE, hE, ho, ht⟩ := hrel
    have f1 : IntKind.i64.wrap ((k : Int) + 1) = (k : Int) + 1 := IntWalk.i64_in _ (by omega)
    by_cases hlt : k < ns.length
    · have hd : decide ((k : Int) < (ns.length : Int)) = true := decide_eq_true (by omega)
      have hd' : (k : Int) < (ns.length : Int) := by omega
      have hk0 : (0 : Int) ≤ (k : Int) := by omega
      obtain ⟨x, hx⟩ : ∃ x, ns[k]? = some x := ⟨ns[k], List.getElem?_eq_getElem hlt⟩
      have hxs := hsm x (List.mem_of_getElem? hx)
      obtain ⟨bb, off, rfl, hbb, hcell⟩ := (Rd.of_own ho).at_ (by omega)
      have q0 : wr.cell? ⟨bb, off + k, none⟩ = some (.string x) := hcell _ _ (sc_get hx)
      have hdr : ns.drop k = x :: ns.drop (k + 1) := by
        rw [List.drop_eq_getElem_cons hlt]
        congr 1
        have := List.getElem?_eq_getElem hlt
        rw [hx] at this
        injection this with this
        exact this.symm
      have hsw2 := hsw.out
      rw [hdr, sweepL_cons] at hsw2
      have hS := HasSuffix_calls x wr (by unfold maxLen; omega)
      change Calls _ _ _ _ (fun e w' => e = .returned (.bool (endsT x)) ∧ w' = wr) at hS
      cases hT : endsT x with
      | false =>
        rw [hT] at hS hsw2
        rw [if_neg (by decide)] at hsw2
        have HS := Lib.hid hS
        have H2 := Lib.hid hsw2
        clear hx hcell hdr hS hsw2 hT
        go_wp2_with ((go_at_call 117; (with_reducible refine HS.out.mono ?_); rintro e z0 ⟨rfl, hz0⟩; obtain rfl := hz0.symm))
        exact ⟨⟨k + 1, E, by go_num, by omega, H2, hKE, hE, ho, ht⟩, by simp [intOf]; omega⟩
      | true =>
        rw [hT] at hS hsw2
        rw [if_pos rfl] at hsw2
        have HS := Lib.hid hS
        have hR := Remove_calls hE hKE x (by unfold maxLen; omega)
        have hK2 := hKE.rem x
        obtain ⟨er, E2, hr⟩ : ∃ er E2, remD E x = (er, E2) := ⟨_, _, rfl⟩
        rw [hr] at hR hK2 hsw2
        simp only at hK2 hsw2
        have HR := Lib.hid hR
        clear hx hcell hdr hS hT hR hr
        go_wp2_with ((go_at_call 117; (with_reducible refine HS.out.mono ?_); rintro e z0 ⟨rfl, hz0⟩; obtain rfl := hz0.symm))
        refine HR.out.mono ?_
        rintro e w3 ⟨rfl, hE3, ht3⟩
        have ho3 := own_tw hE ht3 ho (by decide)
        by_cases he0 : er = 0
        · rw [if_neg (by rw [he0]; simp)] at hsw2
          have H2 := Lib.hid hsw2
          subst he0
          clear hsw2
          go_wp2_with fail
          exact ⟨⟨k + 1, E2, by go_num, by omega, H2, hK2, hE3, ho3, ht.step ht3⟩, by simp [intOf]; omega⟩
        · rw [if_pos he0] at hsw2
          have H2 := Lib.hid hsw2
          have hz : (er == 0) = false := beq_eq_false_iff_ne.2 he0
          clear hsw2 he0
          go_wp2_with fail
          go_ret
          rw [HSW.out, H2.out]
          exact ⟨rfl, hE3, ht.step ht3⟩
    · have hd : decide ((k : Int) < (ns.length : Int)) = false := decide_eq_false (by omega)
      have hdn : decide (k < ns.length) = false := decide_eq_false hlt
      have hE0 : Hid (sweepL D ns = (0, E)) := by unfold Hid; rw [hsw.out, List.drop_eq_nil_of_le (by omega)]; rfl
      go_wp2_with fail
      go_ret
      rw [HSW.out, hE0.out]
      exact ⟨rfl, hE, ht⟩
end
end Go.Proofs.YtecpbcmpncgokaaGreat
namespace Go.Dol
open Go.RowKit
set_option linter.unusedVariables false
theorem drop_filter {l : List Fil} (h : InOrder l) (n : ByteArray) : dropF l n = l.filter fun f => decide (f.1 ≠ n) := by
  induction l with
  | nil => rfl
  | cons f r ih =>
    unfold dropF
    by_cases h1 : sLt f.1 n = true
    · rw [if_pos h1, List.filter_cons, if_pos (decide_eq_true (sLt_ne h1)), ih h.tail]
    · rw [if_neg h1]
      by_cases h2 : f.1 = n
      · rw [if_pos h2, List.filter_cons, if_neg (by simp [h2])]
        refine (List.filter_eq_self.2 fun g hg => ?_).symm
        have h3 := h.head g hg
        rw [h2] at h3
        exact decide_eq_true (sLt_ne h3).symm
      · rw [if_neg h2]
        have hlt : sLt n f.1 = true := sLt_total (by simpa using h1) h2
        refine (List.filter_eq_self.2 fun g hg => ?_).symm
        rcases List.mem_cons.1 hg with rfl | hg
        · exact decide_eq_true h2
        · exact decide_eq_true (sLt_ne (sLt_trans hlt (h.head g hg))).symm
/-- A calm disk, whatever its files cost together. -/
structure CalmW (D : Dk) : Prop where
  left : D.left = -1
  dark : D.dark = false
theorem CalmW.spend {D : Dk} (h : CalmW D) (l' : List Fil) : spendD D l' = (0, { D with done := D.done + 1, l := l' }) := by
  unfold spendD
  rw [if_neg (by rw [h.left]; decide), if_neg (by rw [h.left]; decide)]
theorem CalmW.rem {D : Dk} (h : CalmW D) {n : ByteArray} (hn : nameB n = true) (hl : (lookF D.l n).isSome = true) : remD D n = (0, { D with done := D.done + 1, l := dropF D.l n }) := by
  have ht : touchD D n = 0 := by
    unfold touchD
    rw [if_neg (by rw [hn]; decide), if_neg (by rw [h.dark]; decide), if_pos hl]
  unfold remD
  rw [if_neg (by rw [ht]; simp), h.spend]
/-- A sweep over names that are there. -/
theorem sweepL_calm (ns : List ByteArray) : ∀ (D : Dk), CalmW D → InOrder D.l → ns.Nodup → (∀ n ∈ ns, nameB n = true ∧ (lookF D.l n).isSome = true) →
    ∃ E, sweepL D ns = (0, E) ∧ CalmW E ∧ E.cap = D.cap ∧ E.l = D.l.filter fun f => !(endsT f.1 && ns.any fun n => decide (f.1 = n)) := by
  induction ns with
  | nil =>
    intro D hC hO _ _
    refine ⟨D, rfl, hC, rfl, ?_⟩
    exact (List.filter_eq_self.2 fun f _ => by simp).symm
  | cons n r ih =>
    intro D hC hO hN hA
    obtain ⟨hn1, hn2⟩ := List.nodup_cons.1 hN
    obtain ⟨hb, hl⟩ := hA n (List.mem_cons_self ..)
    rw [sweepL_cons]
    cases hT : endsT n with
    | false =>
      rw [if_neg (by decide)]
      obtain ⟨E, h1, h2, h3, h4⟩ := ih D hC hO hn2 fun x hx => hA x (List.mem_cons_of_mem _ hx)
      refine ⟨E, h1, h2, h3, ?_⟩
      rw [h4]
      refine List.filter_congr fun f _ => ?_
      by_cases he : f.1 = n
      · rw [he, hT]
        rfl
      · rw [List.any_cons, decide_eq_false he, Bool.false_or]
    | true =>
      have hr := hC.rem hb hl
      rw [if_pos rfl, hr, if_neg (by simp)]
      obtain ⟨E, h1, h2, h3, h4⟩ := ih { D with done := D.done + 1, l := dropF D.l n } ⟨hC.left, hC.dark⟩ (drop_order hO) hn2 fun x hx => by
        obtain ⟨q1, q2⟩ := hA x (List.mem_cons_of_mem _ hx)
        refine ⟨q1, ?_⟩
        show (lookF (dropF D.l n) x).isSome = true
        rw [look_drop hO, if_neg (fun e => hn1 (by rw [← e]; exact hx))]
        exact q2
      refine ⟨E, h1, h2, h3, ?_⟩
      rw [h4]
      show (dropF D.l n).filter _ = _
      rw [drop_filter hO, List.filter_filter]
      refine List.filter_congr fun f _ => ?_
      by_cases he : f.1 = n
      · rw [he, hT, List.any_cons]
        simp
      · rw [List.any_cons, decide_eq_false he, Bool.false_or, decide_eq_true he, Bool.and_true]
theorem order_nodup {l : List Fil} (h : InOrder l) : (l.map Prod.fst).Nodup := by
  induction l with
  | nil => exact List.nodup_nil
  | cons f r ih =>
    rw [List.map_cons]
    refine List.nodup_cons.2 ⟨fun hm => ?_, ih h.tail⟩
    obtain ⟨g, hg, he⟩ := List.mem_map.1 hm
    have h1 := h.head g hg
    rw [he, sLt_irrefl] at h1
    cases h1
theorem sweep_calm {L B : Nat} {D : Dk} (hK : OkG L B D) (hC : CalmW D) : ∃ E, sweepD D = (0, E) ∧ CalmW E ∧ E.cap = D.cap ∧ E.l = D.l.filter fun f => !endsT f.1 := by
  obtain ⟨E, h1, h2, h3, h4⟩ := sweepL_calm (D.l.map Prod.fst) D hC hK.ord (order_nodup hK.ord) fun n hn => by
    obtain ⟨f, hf, rfl⟩ := List.mem_map.1 hn
    refine ⟨hK.names f hf, ?_⟩
    rw [(look_some hK.ord).2 (by exact hf : (f.1, f.2) ∈ D.l)]
    rfl
  refine ⟨E, h1, h2, h3, ?_⟩
  rw [h4]
  refine List.filter_congr fun f hf => ?_
  rw [List.any_eq_true.2 ⟨f.1, List.mem_map.2 ⟨f, hf, rfl⟩, decide_eq_true rfl⟩, Bool.and_true]
end Go.Dol
