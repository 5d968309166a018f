/- The walk of the law GraphReaches. Conditions: fewer than 2^38 texts are to be looked at; ids that memory holds. -/
import Derived.Test.YteeajmgiamdfdaaGraphAsks
namespace Go.Proofs.Yteeajmgiamdfdaa
open Go.RowKit Go.Dol
set_option linter.unusedVariables false
theorem par_some {l : List NdA} {x : NdA} (h : x ∈ l) : (parF (l.map NdA.f) x.n).isSome = true := by
  cases hp : parF (l.map NdA.f) x.n with
  | some _ => rfl
  | none => exact absurd rfl (par_none.1 hp x h)
def GreRel (n : Nat) (w : World) (i : Value) (wr : World) : Prop := ∃ k : Nat, i = .int .i64 k ∧ k ≤ n ∧ Below w.heap.size w wr
set_option maxRecDepth 100000 in
set_option maxHeartbeats 8000000 in
theorem graphReaches_walk (A : Option Addr) (l : List NdA) (c : Nat) (a b s : ByteArray) (w : World) (h : NdsOk w A l) (hroom : room (l.map NdA.f) [] [] ≤ 274877906944) (ha : a.size ≤ maxLen) (hb : b.size ≤ maxLen) (hss : s.size ≤ maxLen) :
    Calls Try.prog 6 #[.slice A l.length c, .string a, .string b, .string s] w fun e w' => e = .returned (.bool true) ∧ Below w.heap.size w w' := by
  have hll := h.len
  have HA := Lib.hid (awake_calls w)
  go_enter Try.func6, Try.ntmps6
  go_wp2_with fail
  refine HA.out.mono ?_
  rintro e w1 ⟨rfl, hb1⟩
  clear HA
  by_cases hl1 : 100 < l.length
  · have d1 : decide ((100 : Int) < (l.length : Int)) = true := decide_eq_true (by omega)
    have d1' : (100 : Int) < (l.length : Int) := by omega
    go_wp2_with fail
    go_ret
    exact ⟨rfl, hb1⟩
  · have d1 : decide ((100 : Int) < (l.length : Int)) = false := decide_eq_false (by omega)
    have d1' : ¬ (100 : Int) < (l.length : Int) := by omega
    have h1 := h.below hb1
    have HM := Lib.hid (mine_ok (c := c) h1 (by omega))
    have hs1 := hb1.size
    go_wp2_with fail
    refine HM.out.mono ?_
    rintro e w2 ⟨Ak, ck, rfl, hk2, hb2⟩
    have hb02 := hb1.next hb2
    have hrm1 : 1 + room (l.map NdA.f) [] [] ≤ 549755813888 := by omega
    have HR : Hid (∀ W x y, Below w2.heap.size w2 W → x.size ≤ maxLen → y.size ≤ maxLen → Calls Try.prog 11 #[.slice Ak l.length ck, .string x, .string y] W fun e w' => ∃ v : Bool, e = .returned (.bool v) ∧ (v = true ↔ Rch (l.map NdA.f) [x] y) ∧ Below W.heap.size W w') := fun W x y hW hx hy =>
      Reaches_calls Ak l ck x y W (hk2.below hW) hx hy hrm1
    have HR1 := Lib.hid (HR.out w2 a b (Below.refl _ _) ha hb)
    clear HM h1 hb1 hb2 hs1
    go_wp2_with fail
    refine HR1.out.mono ?_
    rintro e w3 ⟨vab, rfl, hab, hb3⟩
    have HAB := Lib.hid hab
    have HR2 := Lib.hid (HR.out w3 b s hb3 hb hss)
    clear hab HR1
    go_wp2_with fail
    refine HR2.out.mono ?_
    rintro e w4 ⟨vbc, rfl, hbc, hb4⟩
    have HBC := Lib.hid hbc
    have hb24 := hb3.next hb4
    have HR3 := Lib.hid (HR.out w4 a s hb24 ha hss)
    clear hbc HR2 hb3 hb4
    go_wp2_with fail
    refine HR3.out.mono ?_
    rintro e w5 ⟨vac, rfl, hac, hb5⟩
    have HAC := Lib.hid hac
    have hb25 := hb24.next hb5
    clear hac HR3 hb24 hb5
    have hnr := h.rd.belowW hb02 (Nat.le_refl _)
    go_wp2_with fail
    go_loopw [14] (fun i wr => GreRel l.length w2 i wr) (fun i _ => l.length - (intOf i).toNat)
    case atStart => exact ⟨0, rfl, Nat.zero_le _, hb25⟩
    case round =>
      obtain ⟨k, rfl, hk, hbr⟩ := hrel
      have f1 : IntKind.i64.wrap ((k : Int) + 1) = (k : Int) + 1 := IntWalk.i64_in _ (by omega)
      by_cases hlt : k < l.length
      · have hd : decide ((k : Int) < (l.length : Int)) = true := decide_eq_true (by omega)
        have hd' : (k : Int) < (l.length : Int) := by omega
        have hk0 : (0 : Int) ≤ (k : Int) := by omega
        obtain ⟨x, hx⟩ : ∃ x, l[k]? = some x := ⟨l[k], List.getElem?_eq_getElem hlt⟩
        obtain ⟨bl, ol, rfl, hbl, hcl⟩ := h.rd.at_ (by omega)
        have cx0 : w.cell? ⟨bl, ol + k * 2, none⟩ = some (.string x.n) := hcl _ _ (nc_get hx).1
        have hbwr := hb02.next hbr
        have HSS : Hid (∀ W, Below w.heap.size w W → W.cell? ⟨bl, ol + k * 2, none⟩ = some (.string x.n)) := fun W hW => (hW.cell (p := ⟨bl, ol + k * 2, none⟩) hbl).trans cx0
        have HRx : Hid (∀ W, Below w2.heap.size w2 W → Calls Try.prog 11 #[.slice Ak l.length ck, .string x.n, .string x.n] W fun e w' => e = .returned (.bool true) ∧ Below W.heap.size W w') := fun W hW => by
          have hxs := h.ids x (List.mem_of_getElem? hx)
          refine (HR.out W x.n x.n hW hxs hxs).mono ?_
          rintro e w' ⟨v, rfl, hv, hb⟩
          have e : v = true := hv.2 (Rch.self (par_some (List.mem_of_getElem? hx)))
          rw [e]
          exact ⟨rfl, hb⟩
        have hbd := hbr.drew
        have hbd0 := hbwr.drew
        clear hx hcl cx0 hnr hk2
        go_wp2_with fail
        refine wp_region_held_drew (S := fun W => W.cell? ⟨bl, ol + k * 2, none⟩ = some (.string x.n)) (by kernel_rfl) (HSS.out _ hbd0) (fun hHeld => ?_)
        refine wpAnyH_take (i := 0) (oi := _) (v := .slice Ak l.length ck) rfl (by kernel_rfl) (by kernel_rfl) (by kernel_rfl) (fun _ _ _ h => h) (Or.inl ⟨by rfl, fun w9 hS => ?_⟩) hHeld ?_
        · have s0 := hS
          go_simp
        try simp only [Act.put, List.setIfInBounds_toArray, List.set_cons_zero, List.set_cons_succ, List.getElem_toArray, List.getElem_cons_zero]
        refine wpAnyH_take (i := 1) (oi := _) (v := .slice (some ⟨bl, ol, none⟩) l.length c) rfl (by kernel_rfl) (by kernel_rfl) (by kernel_rfl) (fun _ _ _ h => h) (Or.inl ⟨by rfl, fun w9 hS => ?_⟩) hHeld ?_
        · have s0 := hS
          go_simp
        try simp only [Act.put, List.setIfInBounds_toArray, List.set_cons_zero, List.set_cons_succ, List.getElem_toArray, List.getElem_cons_succ, List.getElem_cons_zero]
        refine wpAnyH_take (i := 2) (oi := _) (v := .int .i64 (k : Int)) rfl (by kernel_rfl) (by kernel_rfl) (by kernel_rfl) (fun _ _ _ h => h) (Or.inl ⟨by rfl, fun w9 hS => ?_⟩) hHeld ?_
        · have s0 := hS
          go_simp
        try simp only [Act.put, List.setIfInBounds_toArray, List.set_cons_zero, List.set_cons_succ, List.getElem_toArray, List.getElem_cons_succ, List.getElem_cons_zero]
        refine wpAnyH_take (i := 3) (oi := _) (v := .pointer (some ⟨bl, ol + k * 2, none⟩)) rfl (by kernel_rfl) (by kernel_rfl) (by kernel_rfl) (fun _ _ _ h => h) (Or.inl ⟨by rfl, fun w9 hS => ?_⟩) hHeld ?_
        · have s0 := hS
          go_simp
        try simp only [Act.put, List.setIfInBounds_toArray, List.set_cons_zero, List.set_cons_succ, List.getElem_toArray, List.getElem_cons_succ, List.getElem_cons_zero]
        refine wpAnyH_take (i := 4) (oi := _) (v := .pointer (some ⟨bl, ol + k * 2, none⟩)) rfl (by kernel_rfl) (by kernel_rfl) (by kernel_rfl) (fun _ _ _ h => h) (Or.inl ⟨by rfl, fun w9 hS => ?_⟩) hHeld ?_
        · have s0 := hS
          go_simp
        try simp only [Act.put, List.setIfInBounds_toArray, List.set_cons_zero, List.set_cons_succ, List.getElem_toArray, List.getElem_cons_succ, List.getElem_cons_zero]
        refine wpAnyH_take (i := 5) (oi := _) (v := .string x.n) rfl (by kernel_rfl) (by kernel_rfl) (by kernel_rfl) (fun _ _ _ h => h) (Or.inl ⟨by rfl, fun w9 hS => ?_⟩) hHeld ?_
        · have s0 := hS
          go_simp
        try simp only [Act.put, List.setIfInBounds_toArray, List.set_cons_zero, List.set_cons_succ, List.getElem_toArray, List.getElem_cons_succ, List.getElem_cons_zero]
        refine wpAnyH_take (i := 6) (oi := _) (v := .slice (some ⟨bl, ol, none⟩) l.length c) rfl (by kernel_rfl) (by kernel_rfl) (by kernel_rfl) (fun _ _ _ h => h) (Or.inl ⟨by rfl, fun w9 hS => ?_⟩) hHeld ?_
        · have s0 := hS
          go_simp
        try simp only [Act.put, List.setIfInBounds_toArray, List.set_cons_zero, List.set_cons_succ, List.getElem_toArray, List.getElem_cons_succ, List.getElem_cons_zero]
        refine wpAnyH_take (i := 7) (oi := _) (v := .int .i64 (k : Int)) rfl (by kernel_rfl) (by kernel_rfl) (by kernel_rfl) (fun _ _ _ h => h) (Or.inl ⟨by rfl, fun w9 hS => ?_⟩) hHeld ?_
        · have s0 := hS
          go_simp
        try simp only [Act.put, List.setIfInBounds_toArray, List.set_cons_zero, List.set_cons_succ, List.getElem_toArray, List.getElem_cons_succ, List.getElem_cons_zero]
        refine wpAnyH_take (i := 8) (oi := _) (v := .pointer (some ⟨bl, ol + k * 2, none⟩)) rfl (by kernel_rfl) (by kernel_rfl) (by kernel_rfl) (fun _ _ _ h => h) (Or.inl ⟨by rfl, fun w9 hS => ?_⟩) hHeld ?_
        · have s0 := hS
          go_simp
        try simp only [Act.put, List.setIfInBounds_toArray, List.set_cons_zero, List.set_cons_succ, List.getElem_toArray, List.getElem_cons_succ, List.getElem_cons_zero]
        refine wpAnyH_take (i := 9) (oi := _) (v := .pointer (some ⟨bl, ol + k * 2, none⟩)) rfl (by kernel_rfl) (by kernel_rfl) (by kernel_rfl) (fun _ _ _ h => h) (Or.inl ⟨by rfl, fun w9 hS => ?_⟩) hHeld ?_
        · have s0 := hS
          go_simp
        try simp only [Act.put, List.setIfInBounds_toArray, List.set_cons_zero, List.set_cons_succ, List.getElem_toArray, List.getElem_cons_succ, List.getElem_cons_zero]
        refine wpAnyH_take (i := 10) (oi := _) (v := .string x.n) rfl (by kernel_rfl) (by kernel_rfl) (by kernel_rfl) (fun _ _ _ h => h) (Or.inl ⟨by rfl, fun w9 hS => ?_⟩) hHeld ?_
        · have s0 := hS
          go_simp
        try simp only [Act.put, List.setIfInBounds_toArray, List.set_cons_zero, List.set_cons_succ, List.getElem_toArray, List.getElem_cons_succ, List.getElem_cons_zero]
        refine wpAnyH_ready (rs := [11]) (by kernel_rfl) (by simp) (AllReadyH.cons (o := _) rfl (fun K hK => ?_) AllReadyH.nil)
        go_simp
        refine (HRx.out _ hbd).mono ?_
        rintro e z1 ⟨rfl, hz1⟩
        have hbz := hbd.next hz1
        have hbz0 := hbd0.next hz1
        refine hK.out _ _ (HSS.out _ hbz0) (fun hHeld => ?_)
        clear hK K
        try simp only [Act.put, List.setIfInBounds_toArray, List.set_cons_zero, List.set_cons_succ, List.getElem_toArray, List.getElem_cons_succ, List.getElem_cons_zero]
        refine wpAnyH_take (i := 12) (oi := _) (v := .bool false) rfl (by kernel_rfl) (by kernel_rfl) (by kernel_rfl) (fun _ _ _ h => h) (Or.inl ⟨by rfl, fun w9 hS => ?_⟩) hHeld ?_
        · have s0 := hS
          go_simp
        try simp only [Act.put, List.setIfInBounds_toArray, List.set_cons_zero, List.set_cons_succ, List.getElem_toArray, List.getElem_cons_succ, List.getElem_cons_zero]
        refine wpAnyH_done (by kernel_rfl) ?_ _
        go_wp2_with fail
        exact ⟨⟨k + 1, by go_num, by omega, hbz⟩, by simp [intOf]; omega⟩
      · have hd : decide ((k : Int) < (l.length : Int)) = false := decide_eq_false (by omega)
        have hkr := hk2.below hbr
        have hbx : Below wr.heap.size wr (wr.alloc (.cells #[.string a, .string b] 9)) := (Below.refl _ _).alloc (Nat.le_refl _) _
        have hC := Closure_calls Ak l ck (some ⟨wr.heap.size, 0, none⟩) [a, b] 2 (wr.alloc (.cells #[.string a, .string b] 9)) (hkr.below hbx) (by rw [World.size_alloc]; exact Rd.newT wr 9 [a, b]) (fun x hx => by simp at hx; rcases hx with rfl | rfl; exact ha; exact hb) (by show 2 + _ ≤ _; omega)
        have HC := Lib.hid hC
        clear hC hkr hnr
        go_wp2_with fail
        refine HC.out.mono ?_
        rintro e w6 ⟨L, AL, cL, rfl, hst, hmem, hll6, ho, hb6⟩
        have HH := Lib.hid (lawHas_calls AL L cL s w6 _ (Rd.of_own ho) (by omega))
        have hb26 := hbr.next (hbx.next hb6)
        have HV : Hid (s ∈ L ↔ (vac || vbc) = true) := by
          unfold Hid
          rw [hmem.out s, Rch.from_, Bool.or_eq_true, HAC.out, HBC.out]
          constructor
          · rintro ⟨y, hy, hr⟩
            simp at hy
            rcases hy with rfl | rfl
            · exact .inl hr
            · exact .inr hr
          · rintro (hr | hr)
            · exact ⟨a, by simp, hr⟩
            · exact ⟨b, by simp, hr⟩
        have HT : Hid (vab = true → vbc = true → vac = true) := fun h1 h2 => HAC.out.2 (Rch.trans (HAB.out.1 h1) (HBC.out.1 h2))
        clear ho hst hmem HC hbx hb6 HAB HBC HAC
        have hfin : ∀ W nq, W = w6.drewN nq → Below w.heap.size w W := fun W nq hW => by rw [hW]; exact hb02.next (below_drewN hb26 nq)
        have HFIN := Lib.hid hfin
        clear hfin
        have HVV : Hid (∀ v : Bool, (v = true ↔ s ∈ L) → v = (vac || vbc)) := fun v hv => by
          have e := hv.trans HV.out
          cases hq : (vac || vbc) <;> cases v <;> simp_all
        cases vab <;> cases vbc <;> cases vac
        all_goals first
          | (exfalso; exact absurd (HT.out rfl rfl) (by decide))
          | skip
        all_goals
          go_wp2_with fail
          refine HH.out.mono ?_
          rintro e w7 ⟨v, nq, rfl, hv, hw7⟩
          have hfw := HFIN.out _ nq hw7
          have hvv := HVV.out v hv
          simp at hvv
          subst hvv
          clear hv hw7
          go_wp2_with fail
          go_ret
          exact ⟨rfl, hfw⟩
end Go.Proofs.Yteeajmgiamdfdaa
