/- A sweep, on both sides: what it does in plain Lean, and the walks. Conditions: disks in good order. -/
import Derived.Test.YtegolgkagdlocaaOkG
import Derived.Test.YtegolgkagdlocaaSafeA
import Derived.Test.YtegolgkagdlocaaDiskM
import Derived.Test.YtegolgkagdlocaaTw
import Derived.Test.YtegolgkagdlocaaDisk13
import Derived.Test.YtegolgkagdlocaaRefDisk
namespace Go.Dol
open Go.RowKit
set_option linter.unusedVariables false
/-- A sweep over names. -/
def sweepL (D : Dk) : List ByteArray → Int × Dk
  | [] => (0, D)
  | n :: r => if endsT n = true then (if (remD D n).1 ≠ 0 then remD D n else sweepL (remD D n).2 r) else sweepL D r
def sweepD (D : Dk) : Int × Dk := sweepL D (D.l.map Prod.fst)
theorem sweepL_cons (D : Dk) (n : ByteArray) (r : List ByteArray) : sweepL D (n :: r) = if endsT n = true then (if (remD D n).1 ≠ 0 then remD D n else sweepL (remD D n).2 r) else sweepL D r := rfl
theorem OkG.sweepL {L B : Nat} {D : Dk} (h : OkG L B D) : ∀ l, OkG L B (sweepL D l).2 := by
  intro l
  induction l generalizing D with
  | nil => exact h
  | cons n r ih =>
    rw [sweepL_cons]
    split
    · split
      · exact h.rem n
      · exact ih (h.rem n)
    · exact ih h
end Go.Dol
namespace Go.Proofs.Ytegolgkagdlocaa
open Go.RowKit Go.Dol
set_option linter.unusedVariables false
section
variable {w w' : World} {g m gr : Nat} {D : Dk}
theorem names_small {L B : Nat} (h : OkG L B D) : ∀ n ∈ D.l.map Prod.fst, n.size ≤ 200 := by
  intro n hn
  obtain ⟨f, hf, rfl⟩ := List.mem_map.1 hn
  exact nameB_le (h.names f hf)
theorem sc_get {l : List ByteArray} {k : Nat} {x : ByteArray} (h : l[k]? = some x) : (sc l)[k]? = some (.string x) := by simp [sc, h]
/-- The rounds of a sweep: so many names are swept. -/
def SwRel (D : Dk) (ns : List ByteArray) (A : Option Addr) (c g m : Nat) (w : World) (i : Value) (wr : World) : Prop :=
  ∃ (k : Nat) (E : Dk), i = .int .i64 k ∧ k ≤ ns.length ∧ Hid (sweepL D ns = sweepL E (ns.drop k)) ∧ OkW E ∧ Dsk wr g m E ∧ wr.ownsRow w.heap.size 9 1 (.slice A ns.length c) ns.length (sc ns) ∧ Tw w wr g m
set_option maxRecDepth 100000 in
set_option maxHeartbeats 4000000 in
theorem Sweep_calls (h : Dsk w g m D) (hK : OkW D) : Calls Try.prog 23 #[.pointer (some ⟨g, 0, none⟩)] w (RetOp w g m (sweepD D)) := by
  have hRd := Read_calls h hK.ord ⟨#[126]⟩ (fun b hb => hK.small' hb)
  obtain ⟨rd, ec, hrd⟩ : ∃ rd ec, readD D ⟨#[126]⟩ = (rd, ec) := ⟨_, _, rfl⟩
  have hec : (ec == 1) = false := by
    have hn : nameB ⟨#[126]⟩ = true := by decide
    unfold readD at hrd
    rw [if_neg (by rw [hn]; decide)] at hrd
    cases hl : lookF D.l ⟨#[126]⟩ with
    | none => rw [hl] at hrd; injection hrd with _ hrd; rw [← hrd]; rfl
    | some b => rw [hl] at hrd; injection hrd with _ hrd; rw [← hrd]; rfl
  rw [hrd] at hRd
  have HRd := Lib.hid hRd
  obtain ⟨ns, hns⟩ : ∃ ns, ns = D.l.map Prod.fst := ⟨_, rfl⟩
  have hnl : D.l.length = ns.length := by rw [hns, List.length_map]
  have hsm := names_small hK
  rw [← hns] at hsm
  have hlen := hK.len
  have HNL := Lib.hid hnl
  have HSW : Hid (sweepD D = sweepL D ns) := by unfold Hid; rw [hns]; rfl
  clear hRd hrd
  go_enter Try.func23, Try.ntmps23
  go_wp2_with fail
  refine HRd.out.mono ?_
  rintro e w1 ⟨l1, A1, c1, _, rfl, _, hb1⟩
  have h1 := h.below hb1
  have HNm := Lib.hid (Names_callsL h1 hK.toL)
  go_wp2_with fail
  refine HNm.out.mono ?_
  rintro e w2 ⟨A, c, rfl, ho2, hb2⟩
  have hb02 := hb1.next hb2
  have h2 := h1.below hb2
  have hs1 := hb1.size
  rw [← hns] at ho2
  rw [hnl] at ho2 ⊢
  have ho2' := World.ownsRow.mono ho2 hs1
  have ht2 : Tw w w2 g m := Tw.below hb02
  have hnle : ns.length ≤ 3518437208880 := by omega
  clear ho2 hns hnl
  go_wp2_with fail
  go_loopw [18] (fun i wr => SwRel D ns A c g m w i wr) (fun i _ => ns.length - (intOf i).toNat)
  case atStart => exact ⟨0, D, rfl, Nat.zero_le _, rfl, hK, h2, ho2', ht2⟩
  case round =>
    clear h2 ho2' ht2 h1 hb1 hb2 hb02 hs1
    obtain ⟨k, E, rfl, hk, hsw, hKE, hE, ho, ht⟩ := hrel
    have f1 : IntKind.i64.wrap ((k : Int) + 1) = (k : Int) + 1 := IntWalk.i64_in _ (by omega)
    by_cases hlt : k < ns.length
    · have hd : decide ((k : Int) < (ns.length : Int)) = true := decide_eq_true (by omega)
      have hd' : (k : Int) < (ns.length : Int) := by omega
      have hk0 : (0 : Int) ≤ (k : Int) := by omega
      obtain ⟨x, hx⟩ : ∃ x, ns[k]? = some x := ⟨ns[k], List.getElem?_eq_getElem hlt⟩
      have hxs := hsm x (List.mem_of_getElem? hx)
      obtain ⟨bb, off, rfl, hbb, hcell⟩ := (Rd.of_own ho).at_ (by omega)
      have q0 : wr.cell? ⟨bb, off + k, none⟩ = some (.string x) := hcell _ _ (sc_get hx)
      have hdr : ns.drop k = x :: ns.drop (k + 1) := by
        rw [List.drop_eq_getElem_cons hlt]
        congr 1
        have := List.getElem?_eq_getElem hlt
        rw [hx] at this
        injection this with this
        exact this.symm
      have hsw2 := hsw.out
      rw [hdr, sweepL_cons] at hsw2
      have hS := HasSuffix_calls x wr (by unfold maxLen; omega)
      change Calls _ _ _ _ (fun e w' => e = .returned (.bool (endsT x)) ∧ w' = wr) at hS
      cases hT : endsT x with
      | false =>
        rw [hT] at hS hsw2
        rw [if_neg (by decide)] at hsw2
        have HS := Lib.hid hS
        have H2 := Lib.hid hsw2
        clear hx hcell hdr hS hsw2 hT
        go_wp2_with ((go_at_call 43; (with_reducible refine HS.out.mono ?_); rintro e z0 ⟨rfl, hz0⟩; obtain rfl := hz0.symm))
        exact ⟨⟨k + 1, E, by go_num, by omega, H2, hKE, hE, ho, ht⟩, by simp [intOf]; omega⟩
      | true =>
        rw [hT] at hS hsw2
        rw [if_pos rfl] at hsw2
        have HS := Lib.hid hS
        have hR := Remove_calls hE hKE x (by unfold maxLen; omega)
        have hK2 := hKE.rem x
        obtain ⟨er, E2, hr⟩ : ∃ er E2, remD E x = (er, E2) := ⟨_, _, rfl⟩
        rw [hr] at hR hK2 hsw2
        simp only at hK2 hsw2
        have HR := Lib.hid hR
        clear hx hcell hdr hS hT hR hr
        go_wp2_with ((go_at_call 43; (with_reducible refine HS.out.mono ?_); rintro e z0 ⟨rfl, hz0⟩; obtain rfl := hz0.symm))
        refine HR.out.mono ?_
        rintro e w3 ⟨rfl, hE3, ht3⟩
        have ho3 := own_tw hE ht3 ho (by decide)
        by_cases he0 : er = 0
        · rw [if_neg (by rw [he0]; simp)] at hsw2
          have H2 := Lib.hid hsw2
          subst he0
          clear hsw2
          go_wp2_with fail
          exact ⟨⟨k + 1, E2, by go_num, by omega, H2, hK2, hE3, ho3, ht.step ht3⟩, by simp [intOf]; omega⟩
        · rw [if_pos he0] at hsw2
          have H2 := Lib.hid hsw2
          have hz : (er == 0) = false := beq_eq_false_iff_ne.2 he0
          clear hsw2 he0
          go_wp2_with fail
          go_ret
          rw [HSW.out, H2.out]
          exact ⟨rfl, hE3, ht.step ht3⟩
    · have hd : decide ((k : Int) < (ns.length : Int)) = false := decide_eq_false (by omega)
      have hdn : decide (k < ns.length) = false := decide_eq_false hlt
      have hE0 : Hid (sweepL D ns = (0, E)) := by unfold Hid; rw [hsw.out, List.drop_eq_nil_of_le (by omega)]; rfl
      go_wp2_with fail
      go_ret
      rw [HSW.out, hE0.out]
      exact ⟨rfl, hE, ht⟩
end
end Go.Proofs.Ytegolgkagdlocaa
