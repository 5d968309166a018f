/- The walk of the law GraphOrder. Conditions: fewer than 2^47 rows, and numbers. -/
import Derived.Test.YteeajmgiamdfdaaFwd
import Derived.Test.YteeajmgiamdfdaaGraphTurns
namespace Go.Proofs.Yteeajmgiamdfdaa
open Go.RowKit Go.Dol
set_option linter.unusedVariables false
/-- The rounds that name where to begin. -/
def FroRel2 (n : Nat) (w : World) (q i : Value) (wr : World) : Prop :=
  ∃ (ys : List ByteArray) (A : Option Addr) (c : Nat), q = .slice A ys.length c ∧ i = .int .i64 ys.length ∧ ys.length ≤ n ∧ ys.length ≤ 20 ∧ Hid (∀ y ∈ ys, y.size ≤ maxLen) ∧ wr.ownsRow w.heap.size 9 1 (.slice A ys.length c) ys.length (pc ys) ∧ Below w.heap.size w wr
set_option maxRecDepth 100000 in
set_option maxHeartbeats 16000000 in
theorem graphOrder_walk (A : Option Addr) (l0 : List RowA) (c : Nat) (A0 : Option Addr) (fr : List Int) (c0 : Nat) (w : World) (hr : Rd w w.heap.size 1 A l0.length (uc l0)) (hw : Rws w w.heap.size l0) (hl0 : l0.length ≤ 140737488355328)
    (hr0 : Rd w w.heap.size 1 A0 fr.length (ic fr)) (hf0 : fr.length ≤ 140737488355328) :
    Calls Try.prog 5 #[.slice A l0.length c, .slice A0 fr.length c0] w fun e w' => e = .returned (.bool true) ∧ Below w.heap.size w w' := by
  have HA := Lib.hid (awake_calls w)
  go_enter Try.func5, Try.ntmps5
  go_wp2_with fail
  refine HA.out.mono ?_
  rintro e w1 ⟨rfl, hb1⟩
  have HFw := Lib.hid (forward_calls A l0 c w1 ((hr.belowW hb1 (Nat.le_refl _)).more hb1.size) (fun x hx => ⟨((hw x hx).1.belowW hb1 (Nat.le_refl _)).more hb1.size, (hw x hx).2⟩) hl0)
  clear HA hr hw hl0
  go_wp2_with fail
  refine HFw.out.mono ?_
  rintro e w2 ⟨l, Ak, ck, rfl, hF, hok, hb2⟩
  have hb02 := hb1.next hb2
  have hll : l.length ≤ 60 := by have := hF.out.len; rw [List.length_map] at this; exact this
  have h300 : room (l.map NdA.f) [] [] ≤ 300 := fwd_room hF.out
  clear HFw hb1 hb2
  rcases Nat.eq_zero_or_pos l.length with h0 | h0
  · have hz : ((l.length : Int) == 0) = true := by rw [h0]; rfl
    go_wp2_with fail
    go_ret
    exact ⟨rfl, hb02⟩
  · have hz : ((l.length : Int) == 0) = false := beq_eq_false_iff_ne.2 (by omega)
    have hzn : ¬ (l.length : Int) = 0 := by omega
    have hzn' : ¬ l.length = 0 := by omega
    have hzi : (1 : Int) ≤ (l.length : Int) := by omega
    obtain ⟨nb, no, rfl, hnb, hncell⟩ := hok.rd.at_ h0
    have HNC : Hid (∀ j u, (nc l)[j]? = some u → ∀ W, Below w2.heap.size w2 W → W.cell? ⟨nb, no + j, none⟩ = some u) := fun j u hu W hW => (hW.cell (p := ⟨nb, no + j, none⟩) hnb).trans (hncell j u hu)
    have hr02 := hr0.belowW hb02 (Nat.le_refl _)
    have hs02 := hb02.size
    clear hncell hr0
    go_wp2_with fail
    go_loopw [7, 8] (fun q i wr => FroRel2 fr.length w2 q i wr) (fun _ i _ => fr.length - (intOf i).toNat)
    case atStart => exact ⟨[], none, 0, rfl, rfl, Nat.zero_le _, Nat.zero_le _, (fun y hy => (List.not_mem_nil hy).elim), World.ownsRow_nil _ _ _ _, Below.refl _ _⟩
    case round =>
      obtain ⟨fs, A7, c7, rfl, rfl, hk, hk20, hfz, ho, hbr⟩ := hrel
      have hs := hbr.size
      have f1 : IntKind.i64.wrap ((fs.length : Int) + 1) = (fs.length : Int) + 1 := IntWalk.i64_in _ (by omega)
      obtain ⟨i, hi⟩ : ∃ i, i = fs.length := ⟨_, rfl⟩
      have HI := Lib.hid hi
      by_cases hlt : fs.length < fr.length ∧ fs.length < 20
      · obtain ⟨h1, h2⟩ := hlt
        have hd1 : decide ((i : Int) < (fr.length : Int)) = true := decide_eq_true (by omega)
        have hd1' : (i : Int) < (fr.length : Int) := by omega
        have hd2 : decide ((i : Int) < 20) = true := decide_eq_true (by omega)
        have hd2' : (i : Int) < 20 := by omega
        have hi0 : (0 : Int) ≤ (i : Int) := by omega
        obtain ⟨v, hv⟩ : ∃ v, fr[i]? = some v := ⟨fr[i], List.getElem?_eq_getElem (by omega)⟩
        obtain ⟨rb, ro, hA0, hrb, hrcell⟩ := (hr02.belowW hbr hs02).at_ (by omega)
        have cv : wr.cell? ⟨rb, ro + i, none⟩ = some (.int .i64 v) := hrcell i _ (by simp [ic, hv])
        obtain ⟨q, hq, hq5⟩ := mask_nat v
        obtain ⟨m, hm⟩ : ∃ m : Nat, (q : Int) % (l.length : Int) = (m : Int) := ⟨q % l.length, by omega⟩
        have hm' : (q : Int).tmod (l.length : Int) = (m : Int) := by rw [Int.tmod_eq_emod_of_nonneg (by omega)]; exact hm
        have hml : m < l.length := by have : (q : Int) % (l.length : Int) < (l.length : Int) := Int.emod_lt_of_pos _ (by omega); omega
        have j1 : (0 : Int) ≤ (m : Int) := by omega
        have j2 : (m : Int) < (l.length : Int) := by omega
        have j3 : (0 : Int) ≤ (q : Int) := by omega
        obtain ⟨x, hx⟩ : ∃ x, l[m]? = some x := ⟨l[m], List.getElem?_eq_getElem hml⟩
        have cx := HNC.out _ _ (nc_get hx).1 wr hbr
        have hxs := hok.ids x (List.mem_of_getElem? hx)
        obtain ⟨z, hzx⟩ : ∃ z, z = x.n := ⟨_, rfl⟩
        rw [← hzx] at cx hxs
        have hn1 := Rd.new1 wr 9 (.string z)
        rw [← hi] at f1 ho hk hk20 ⊢
        obtain ⟨B7, hB7⟩ : ∃ B : Option Addr, B = A0 := ⟨_, rfl⟩
        rw [← hB7] at hA0
        subst hA0
        subst hB7
        clear hi h1 h2 hv hrcell hx hzx
        go_wp2_with (at_builtin; refine appVl rfl (.tmp 35) (.tmp 48) 26 9 _ 16 rfl Try.underlying26 info_string rfl w2.heap.size _ i (pc fs) rfl (ho.alloc _) (wr.heap.size + 1) _ 1 1 [Value.string z] rfl hn1 (by simp [Value.oneCell']) (by unfold maxLen; omega) (by omega) (by simp; omega) ?_; intro A11 c11 w11 y1 y2 y3 y4 y5; have hb11 := (hbr.alloc hs (.cells #[Value.string z] 9)).trans y2)
        have hyl2 : (fs ++ [z]).length = i + 1 := by rw [List.length_append, HI.out]; rfl
        have hfz2 : Hid (∀ y ∈ fs ++ [z], y.size ≤ maxLen) := fun y hy => by
          rcases List.mem_append.1 hy with hy | hy
          · exact hfz.out y hy
          · rw [List.mem_singleton.1 hy]; exact hxs
        refine ⟨⟨fs ++ [z], A11, c11, by rw [hyl2], by rw [hyl2]; go_num, by omega, by omega, hfz2, ?_, hb11⟩, by simp [intOf]; omega⟩
        rw [hyl2, pc_append]
        exact y1
      · have hcut : (decide ((i : Int) < (fr.length : Int)) = false ∧ ¬ (i : Int) < (fr.length : Int)) ∨ ((decide ((i : Int) < (fr.length : Int)) = true ∧ (i : Int) < (fr.length : Int)) ∧ (decide ((i : Int) < 20) = false ∧ ¬ (i : Int) < 20)) := by
          by_cases h5 : (i : Int) < (fr.length : Int)
          · have h6 : ¬ (i : Int) < 20 := fun h => hlt ⟨by omega, by omega⟩
            exact .inr ⟨⟨decide_eq_true h5, h5⟩, decide_eq_false h6, h6⟩
          · exact .inl ⟨decide_eq_false h5, h5⟩
        have hokr := hok.below hbr
        have hrf := Rd.of_own ho
        have hrm : fs.length + room (l.map NdA.f) [] [] ≤ 549755813888 := by omega
        have HO := Lib.hid (Order_calls (some ⟨nb, no, none⟩) l ck A7 fs c7 wr hokr hrf hfz.out hrm)
        have hb0r := hb02.next hbr
        have hrf0 := hrf
        have hb2r := hbr
        rw [← hi] at HO ⊢

        rcases hcut with ⟨c1, c1'⟩ | ⟨⟨c1, c1'⟩, c2, c2'⟩
        all_goals
          clear hz hzn hzn' hr02 ho hrf hlt hi hbr hk hk20
          go_wp2_with fail
          refine HO.out.mono ?_
          rintro e w3 ⟨all, zs, A3, c3, rfl, hst, hmem, hzs, hzl, ho3, hb3⟩
          have hok3 := hokr.below hb3
          have hb23 := hb0r.next hb3
          have hb23w := hb2r.next hb3
          have hrf3 := (hrf0.belowW hb3 (Nat.le_refl _)).more hb3.size
          have HC := Lib.hid (Closure_calls (some ⟨nb, no, none⟩) l ck A7 fs c7 w3 hok3 hrf3 hfz.out hrm)
          rw [← HI.out] at HC
          clear HO hokr hrf0 hb0r
          go_wp2_with fail
          refine HC.out.mono ?_
          rintro e w4 ⟨L4, A4, c4, rfl, hs4, hm4, hl4, ho4, hb4⟩
          have hE := ids_same hst hmem hs4 hm4
          have hLen : zs.length = L4.length := by rw [hzs.out, hF.out.length hst.out hmem.out, hE]
          have hdl : ((zs.length : Int) != (L4.length : Int)) = false := by rw [hLen]; simp
          have HOK : Hid (OrdOk L4 zs) := by unfold Hid; rw [hzs.out, hE]; exact orderO_ok _ _
          have HBH : Hid (∀ i x, zs[i]? = some x → ∀ y ∈ parL (l.map NdA.f) x, y ∈ zs.take i) := by unfold Hid; rw [hzs.out]; exact hF.out.behind hmem.out
          have hrz := ((Rd.of_own ho3).belowW hb4 (Nat.le_refl _)).more hb4.size
          have hrl := Rd.of_own ho4
          have hzc := own_le ho3
          have hb24 := hb23.next hb4
          have hb24w := hb23w.next hb4
          have hok4 := hok3.below hb4
          have HLEN := Lib.hid hLen
          clear hst hmem hzs hs4 hm4 hE HC ho3 ho4 hb3 hb4 hLen hok3 hrf3 hb23 hb23w
          go_wp2_with fail
          clear hdl
          go_loopw [11] (fun i wr => GreRel zs.length w4 i wr) (fun i _ => zs.length - (intOf i).toNat)
          case atStart => exact ⟨0, rfl, Nat.zero_le _, Below.refl _ _⟩
          case round =>
            obtain ⟨k, rfl, hk, hbr⟩ := hrel
            have g1 : IntKind.i64.wrap ((k : Int) + 1) = (k : Int) + 1 := IntWalk.i64_in _ (by omega)
            by_cases hltk : k < zs.length
            · have hd : decide ((k : Int) < (zs.length : Int)) = true := decide_eq_true (by omega)
              have hd' : (k : Int) < (zs.length : Int) := by omega
              have hk0 : (0 : Int) ≤ (k : Int) := by omega
              obtain ⟨x, hx⟩ : ∃ x, zs[k]? = some x := ⟨zs[k], List.getElem?_eq_getElem hltk⟩
              obtain ⟨m1, hm1, hm1a, hm1b, hR1, hS1⟩ := slT_to (w := w4) (k := k) (k : Int) rfl hrz (by omega) hzc.1 hzc.2
              obtain ⟨bl, ol, hA3, hbl, hcl⟩ := hrz.at_ (by omega)
              have cx0 : w4.cell? ⟨bl, ol + k, none⟩ = some (.string x) := hcl k _ (by simp [pc, hx])
              have HSS : Hid (∀ W, Below w4.heap.size w4 W → W.cell? ⟨bl, ol + k, none⟩ = some (.string x)) := fun W hW => (hW.cell (p := ⟨bl, ol + k, none⟩) hbl).trans cx0
              have hno : x ∉ m1 := by
                rw [hm1.out]
                intro hm
                have hn := HOK.out.nodup
                obtain ⟨j, hj, e⟩ := List.mem_iff_getElem.1 hm
                rw [List.length_take] at hj
                rw [List.getElem_take] at e
                have e2 : zs[j]? = zs[k]? := by rw [List.getElem?_eq_getElem (by omega), e, hx]
                have := (List.getElem?_inj (by omega) hn).1 e2
                omega
              have hin : x ∈ L4 := HOK.out.sub x (List.mem_of_getElem? hx)
              have HH0 : Hid (∀ W y, Below w4.heap.size w4 W → Calls Try.prog 20 #[.slice A3 m1.length c3, .string y] W (RetEq (y ∈ m1) W)) := fun W y hW => lawHas_calls A3 m1 c3 y W _ (hR1.belowW hW (Nat.le_refl _)) (by omega)
              have HH1 : Hid (∀ W, Below w4.heap.size w4 W → Calls Try.prog 20 #[.slice A3 m1.length c3, .string x] W fun e w' => ∃ n, e = .returned (.bool false) ∧ w' = W.drewN n) := fun W hW => by
                refine (HH0.out W x hW).mono ?_
                rintro e w' ⟨v, n, rfl, hv, hw⟩
                have e : v = false := by cases v with | false => rfl | true => exact absurd (hv.1 rfl) hno
                rw [e]
                exact ⟨n, rfl, hw⟩
              have HH2 : Hid (∀ W, Below w4.heap.size w4 W → Calls Try.prog 20 #[.slice A4 L4.length c4, .string x] W fun e w' => ∃ n, e = .returned (.bool true) ∧ w' = W.drewN n) := fun W hW => by
                refine (lawHas_calls A4 L4 c4 x W _ (hrl.belowW hW (Nat.le_refl _)) (by omega)).mono ?_
                rintro e w' ⟨v, n, rfl, hv, hw⟩
                have e : v = true := hv.2 hin
                rw [e]
                exact ⟨n, rfl, hw⟩
              have hbd := hbr.drew
              have HX := Lib.hid hx
              obtain ⟨B7, hB7⟩ : ∃ B : Option Addr, B = A3 := ⟨_, rfl⟩
              rw [← hB7] at hA3
              subst hA3
              subst hB7
              clear hx hcl cx0 hno hin hrz hrl hm1a hm1b hR1
              go_wp2_with fail
              refine wp_region_held_drew (S := fun W => W.cell? ⟨bl, ol + k, none⟩ = some (.string x)) (by kernel_rfl) (HSS.out _ hbd) (fun hHeld => ?_)
              refine wpAnyH_take (i := 0) (oi := _) (v := .slice (some ⟨bl, ol, none⟩) zs.length c3) rfl (by kernel_rfl) (by kernel_rfl) (by kernel_rfl) (fun _ _ _ h => h) (Or.inl ⟨by rfl, fun w9 hS => ?_⟩) hHeld ?_
              · have s0 := hS
                go_simp
              try simp only [Act.put, List.setIfInBounds_toArray, List.set_cons_zero, List.set_cons_succ, List.getElem_toArray, List.getElem_cons_zero]
              refine wpAnyH_take (i := 1) (oi := _) (v := .int .i64 (k : Int)) rfl (by kernel_rfl) (by kernel_rfl) (by kernel_rfl) (fun _ _ _ h => h) (Or.inl ⟨by rfl, fun w9 hS => ?_⟩) hHeld ?_
              · have s0 := hS
                go_simp
              try simp only [Act.put, List.setIfInBounds_toArray, List.set_cons_zero, List.set_cons_succ, List.getElem_toArray, List.getElem_cons_succ, List.getElem_cons_zero]
              refine wpAnyH_take (i := 2) (oi := _) (v := .slice (some ⟨bl, ol, none⟩) m1.length c3) rfl (by kernel_rfl) (by kernel_rfl) (by kernel_rfl) (fun _ _ _ h => h) (Or.inl ⟨by rfl, fun w9 hS => ?_⟩) hHeld ?_
              · have s0 := hS
                go_simp
              try simp only [Act.put, List.setIfInBounds_toArray, List.set_cons_zero, List.set_cons_succ, List.getElem_toArray, List.getElem_cons_succ, List.getElem_cons_zero]
              refine wpAnyH_take (i := 3) (oi := _) (v := .slice (some ⟨bl, ol, none⟩) zs.length c3) rfl (by kernel_rfl) (by kernel_rfl) (by kernel_rfl) (fun _ _ _ h => h) (Or.inl ⟨by rfl, fun w9 hS => ?_⟩) hHeld ?_
              · have s0 := hS
                go_simp
              try simp only [Act.put, List.setIfInBounds_toArray, List.set_cons_zero, List.set_cons_succ, List.getElem_toArray, List.getElem_cons_succ, List.getElem_cons_zero]
              refine wpAnyH_take (i := 4) (oi := _) (v := .int .i64 (k : Int)) rfl (by kernel_rfl) (by kernel_rfl) (by kernel_rfl) (fun _ _ _ h => h) (Or.inl ⟨by rfl, fun w9 hS => ?_⟩) hHeld ?_
              · have s0 := hS
                go_simp
              try simp only [Act.put, List.setIfInBounds_toArray, List.set_cons_zero, List.set_cons_succ, List.getElem_toArray, List.getElem_cons_succ, List.getElem_cons_zero]
              refine wpAnyH_take (i := 5) (oi := _) (v := .pointer (some ⟨bl, ol + k, none⟩)) rfl (by kernel_rfl) (by kernel_rfl) (by kernel_rfl) (fun _ _ _ h => h) (Or.inl ⟨by rfl, fun w9 hS => ?_⟩) hHeld ?_
              · have s0 := hS
                go_simp
              try simp only [Act.put, List.setIfInBounds_toArray, List.set_cons_zero, List.set_cons_succ, List.getElem_toArray, List.getElem_cons_succ, List.getElem_cons_zero]
              refine wpAnyH_take (i := 6) (oi := _) (v := .string x) rfl (by kernel_rfl) (by kernel_rfl) (by kernel_rfl) (fun _ _ _ h => h) (Or.inl ⟨by rfl, fun w9 hS => ?_⟩) hHeld ?_
              · have s0 := hS
                go_simp
              try simp only [Act.put, List.setIfInBounds_toArray, List.set_cons_zero, List.set_cons_succ, List.getElem_toArray, List.getElem_cons_succ, List.getElem_cons_zero]
              refine wpAnyH_ready (rs := [7]) (by kernel_rfl) (by simp) (AllReadyH.cons (o := _) rfl (fun K hK => ?_) AllReadyH.nil)
              go_simp
              refine (HH1.out _ hbd).mono ?_
              rintro e z1 ⟨n1, rfl, hz1⟩
              have hbz : Below w4.heap.size w4 z1 := by rw [hz1]; exact below_drewN hbd n1
              clear hz1
              refine hK.out _ _ (HSS.out _ hbz) (fun hHeld => ?_)
              clear hK K
              try simp only [Act.put, List.setIfInBounds_toArray, List.set_cons_zero, List.set_cons_succ, List.getElem_toArray, List.getElem_cons_succ, List.getElem_cons_zero]
              refine wpAnyH_take (i := 8) (oi := _) (v := .bool false) rfl (by kernel_rfl) (by kernel_rfl) (by kernel_rfl) (fun _ _ _ h => h) (Or.inl ⟨by rfl, fun w9 hS => ?_⟩) hHeld ?_
              · have s0 := hS
                go_simp
              try simp only [Act.put, List.setIfInBounds_toArray, List.set_cons_zero, List.set_cons_succ, List.getElem_toArray, List.getElem_cons_succ, List.getElem_cons_zero]
              refine wpAnyH_take (i := 9) (oi := _) (v := .slice A4 L4.length c4) rfl (by kernel_rfl) (by kernel_rfl) (by kernel_rfl) (fun _ _ _ h => h) (Or.inl ⟨by rfl, fun w9 hS => ?_⟩) hHeld ?_
              · have s0 := hS
                go_simp
              try simp only [Act.put, List.setIfInBounds_toArray, List.set_cons_zero, List.set_cons_succ, List.getElem_toArray, List.getElem_cons_succ, List.getElem_cons_zero]
              refine wpAnyH_take (i := 10) (oi := _) (v := .slice (some ⟨bl, ol, none⟩) zs.length c3) rfl (by kernel_rfl) (by kernel_rfl) (by kernel_rfl) (fun _ _ _ h => h) (Or.inl ⟨by rfl, fun w9 hS => ?_⟩) hHeld ?_
              · have s0 := hS
                go_simp
              try simp only [Act.put, List.setIfInBounds_toArray, List.set_cons_zero, List.set_cons_succ, List.getElem_toArray, List.getElem_cons_succ, List.getElem_cons_zero]
              refine wpAnyH_take (i := 11) (oi := _) (v := .int .i64 (k : Int)) rfl (by kernel_rfl) (by kernel_rfl) (by kernel_rfl) (fun _ _ _ h => h) (Or.inl ⟨by rfl, fun w9 hS => ?_⟩) hHeld ?_
              · have s0 := hS
                go_simp
              try simp only [Act.put, List.setIfInBounds_toArray, List.set_cons_zero, List.set_cons_succ, List.getElem_toArray, List.getElem_cons_succ, List.getElem_cons_zero]
              refine wpAnyH_take (i := 12) (oi := _) (v := .pointer (some ⟨bl, ol + k, none⟩)) rfl (by kernel_rfl) (by kernel_rfl) (by kernel_rfl) (fun _ _ _ h => h) (Or.inl ⟨by rfl, fun w9 hS => ?_⟩) hHeld ?_
              · have s0 := hS
                go_simp
              try simp only [Act.put, List.setIfInBounds_toArray, List.set_cons_zero, List.set_cons_succ, List.getElem_toArray, List.getElem_cons_succ, List.getElem_cons_zero]
              refine wpAnyH_take (i := 13) (oi := _) (v := .string x) rfl (by kernel_rfl) (by kernel_rfl) (by kernel_rfl) (fun _ _ _ h => h) (Or.inl ⟨by rfl, fun w9 hS => ?_⟩) hHeld ?_
              · have s0 := hS
                go_simp
              try simp only [Act.put, List.setIfInBounds_toArray, List.set_cons_zero, List.set_cons_succ, List.getElem_toArray, List.getElem_cons_succ, List.getElem_cons_zero]
              refine wpAnyH_ready (rs := [14]) (by kernel_rfl) (by simp) (AllReadyH.cons (o := _) rfl (fun K hK => ?_) AllReadyH.nil)
              go_simp
              refine (HH2.out _ hbz).mono ?_
              rintro e z2 ⟨n2, rfl, hz2⟩
              have hby : Below w4.heap.size w4 z2 := by rw [hz2]; exact below_drewN hbz n2
              clear hz2
              refine hK.out _ _ (HSS.out _ hby) (fun hHeld => ?_)
              clear hK K
              try simp only [Act.put, List.setIfInBounds_toArray, List.set_cons_zero, List.set_cons_succ, List.getElem_toArray, List.getElem_cons_succ, List.getElem_cons_zero]
              refine wpAnyH_take (i := 15) (oi := _) (v := .bool false) rfl (by kernel_rfl) (by kernel_rfl) (by kernel_rfl) (fun _ _ _ h => h) (Or.inl ⟨by rfl, fun w9 hS => ?_⟩) hHeld ?_
              · have s0 := hS
                go_simp
              try simp only [Act.put, List.setIfInBounds_toArray, List.set_cons_zero, List.set_cons_succ, List.getElem_toArray, List.getElem_cons_succ, List.getElem_cons_zero]
              refine wpAnyH_take (i := 16) (oi := _) (v := .bool false) rfl (by kernel_rfl) (by kernel_rfl) (by kernel_rfl) (fun _ _ _ h => h) (Or.inl ⟨by rfl, fun w9 hS => ?_⟩) hHeld ?_
              · have s0 := hS
                go_simp
              try simp only [Act.put, List.setIfInBounds_toArray, List.set_cons_zero, List.set_cons_succ, List.getElem_toArray, List.getElem_cons_succ, List.getElem_cons_zero]
              refine wpAnyH_done (by kernel_rfl) ?_ _
              go_wp2_with fail
              clear hbr hbd hbz HH1 HH2
              go_loopw [12] (fun i wr => GreRel l.length w4 i wr) (fun i _ => l.length - (intOf i).toNat)
              case atStart => exact ⟨0, rfl, Nat.zero_le _, hby⟩
              case round =>
                clear hby
                obtain ⟨j, rfl, hj, hbj⟩ := hrel
                have g2 : IntKind.i64.wrap ((j : Int) + 1) = (j : Int) + 1 := IntWalk.i64_in _ (by omega)
                by_cases hltj : j < l.length
                · have hdj : decide ((j : Int) < (l.length : Int)) = true := decide_eq_true (by omega)
                  have hdj' : (j : Int) < (l.length : Int) := by omega
                  have hj0 : (0 : Int) ≤ (j : Int) := by omega
                  obtain ⟨nd, hnd⟩ : ∃ x, l[j]? = some x := ⟨l[j], List.getElem?_eq_getElem hltj⟩
                  have HC0 : Hid (∀ W, Below w4.heap.size w4 W → W.cell? ⟨nb, no + j * 2, none⟩ = some (.string nd.n)) := fun W hW => HNC.out _ _ (nc_get hnd).1 W (hb24w.next hW)
                  have HC1 : Hid (∀ W, Below w4.heap.size w4 W → W.cell? ⟨nb, no + j * 2 + 1, none⟩ = some (.slice nd.A nd.ps.length nd.c)) := fun W hW => HNC.out _ _ (nc_get hnd).2 W (hb24w.next hW)
                  have HSS2 : Hid (∀ W, Below w4.heap.size w4 W → W.cell? ⟨nb, no + j * 2, none⟩ = some (.string nd.n) ∧ W.cell? ⟨bl, ol + k, none⟩ = some (.string x)) := fun W hW => ⟨HC0.out W hW, HSS.out W hW⟩
                  have hbjd := hbj.drew
                  have hpar : parL (l.map NdA.f) nd.n = nd.ps := by
                    have := hF.out.par (i := j) (nd := nd.f) (by rw [List.getElem?_map, hnd]; rfl)
                    unfold parL
                    have e : parF (l.map NdA.f) nd.n = some nd.ps := this
                    rw [e]
                    rfl
                  obtain ⟨hpr, hpc1, hpc2⟩ := hok4.ps nd (List.mem_of_getElem? hnd)
                  have HPAR := Lib.hid hpar
                  clear hnd hpar
                  unfold maxLen at hpc2
                  go_wp2_with fail
                  by_cases hne : nd.n = x
                  · have heq : nd.n.toList = x.toList := by rw [hne]
                    have HNE := Lib.hid hne
                    clear hne
                    refine wp_region_held_drew (S := fun W => W.cell? ⟨nb, no + j * 2, none⟩ = some (.string nd.n) ∧ W.cell? ⟨bl, ol + k, none⟩ = some (.string x)) (by kernel_rfl) (HSS2.out _ hbjd) (fun hHeld => ?_)
                    refine wpAnyH_take (i := 0) (oi := _) (v := .slice (some ⟨nb, no, none⟩) l.length ck) rfl (by kernel_rfl) (by kernel_rfl) (by kernel_rfl) (fun _ _ _ h => h) (Or.inl ⟨by rfl, fun w9 hS => ?_⟩) hHeld ?_
                    · obtain ⟨s0, s1⟩ := hS
                      go_simp
                    try simp only [Act.put, List.setIfInBounds_toArray, List.set_cons_zero, List.set_cons_succ, List.getElem_toArray, List.getElem_cons_zero]
                    refine wpAnyH_take (i := 1) (oi := _) (v := .int .i64 (j : Int)) rfl (by kernel_rfl) (by kernel_rfl) (by kernel_rfl) (fun _ _ _ h => h) (Or.inl ⟨by rfl, fun w9 hS => ?_⟩) hHeld ?_
                    · obtain ⟨s0, s1⟩ := hS
                      go_simp
                    try simp only [Act.put, List.setIfInBounds_toArray, List.set_cons_zero, List.set_cons_succ, List.getElem_toArray, List.getElem_cons_succ, List.getElem_cons_zero]
                    refine wpAnyH_take (i := 2) (oi := _) (v := .pointer (some ⟨nb, no + j * 2, none⟩)) rfl (by kernel_rfl) (by kernel_rfl) (by kernel_rfl) (fun _ _ _ h => h) (Or.inl ⟨by rfl, fun w9 hS => ?_⟩) hHeld ?_
                    · obtain ⟨s0, s1⟩ := hS
                      go_simp
                    try simp only [Act.put, List.setIfInBounds_toArray, List.set_cons_zero, List.set_cons_succ, List.getElem_toArray, List.getElem_cons_succ, List.getElem_cons_zero]
                    refine wpAnyH_take (i := 3) (oi := _) (v := .pointer (some ⟨nb, no + j * 2, none⟩)) rfl (by kernel_rfl) (by kernel_rfl) (by kernel_rfl) (fun _ _ _ h => h) (Or.inl ⟨by rfl, fun w9 hS => ?_⟩) hHeld ?_
                    · obtain ⟨s0, s1⟩ := hS
                      go_simp
                    try simp only [Act.put, List.setIfInBounds_toArray, List.set_cons_zero, List.set_cons_succ, List.getElem_toArray, List.getElem_cons_succ, List.getElem_cons_zero]
                    refine wpAnyH_take (i := 4) (oi := _) (v := .string nd.n) rfl (by kernel_rfl) (by kernel_rfl) (by kernel_rfl) (fun _ _ _ h => h) (Or.inl ⟨by rfl, fun w9 hS => ?_⟩) hHeld ?_
                    · obtain ⟨s0, s1⟩ := hS
                      go_simp
                    try simp only [Act.put, List.setIfInBounds_toArray, List.set_cons_zero, List.set_cons_succ, List.getElem_toArray, List.getElem_cons_succ, List.getElem_cons_zero]
                    refine wpAnyH_take (i := 5) (oi := _) (v := .slice (some ⟨bl, ol, none⟩) zs.length c3) rfl (by kernel_rfl) (by kernel_rfl) (by kernel_rfl) (fun _ _ _ h => h) (Or.inl ⟨by rfl, fun w9 hS => ?_⟩) hHeld ?_
                    · obtain ⟨s0, s1⟩ := hS
                      go_simp
                    try simp only [Act.put, List.setIfInBounds_toArray, List.set_cons_zero, List.set_cons_succ, List.getElem_toArray, List.getElem_cons_succ, List.getElem_cons_zero]
                    refine wpAnyH_take (i := 6) (oi := _) (v := .int .i64 (k : Int)) rfl (by kernel_rfl) (by kernel_rfl) (by kernel_rfl) (fun _ _ _ h => h) (Or.inl ⟨by rfl, fun w9 hS => ?_⟩) hHeld ?_
                    · obtain ⟨s0, s1⟩ := hS
                      go_simp
                    try simp only [Act.put, List.setIfInBounds_toArray, List.set_cons_zero, List.set_cons_succ, List.getElem_toArray, List.getElem_cons_succ, List.getElem_cons_zero]
                    refine wpAnyH_take (i := 7) (oi := _) (v := .pointer (some ⟨bl, ol + k, none⟩)) rfl (by kernel_rfl) (by kernel_rfl) (by kernel_rfl) (fun _ _ _ h => h) (Or.inl ⟨by rfl, fun w9 hS => ?_⟩) hHeld ?_
                    · obtain ⟨s0, s1⟩ := hS
                      go_simp
                    try simp only [Act.put, List.setIfInBounds_toArray, List.set_cons_zero, List.set_cons_succ, List.getElem_toArray, List.getElem_cons_succ, List.getElem_cons_zero]
                    refine wpAnyH_take (i := 8) (oi := _) (v := .string x) rfl (by kernel_rfl) (by kernel_rfl) (by kernel_rfl) (fun _ _ _ h => h) (Or.inl ⟨by rfl, fun w9 hS => ?_⟩) hHeld ?_
                    · obtain ⟨s0, s1⟩ := hS
                      go_simp
                    try simp only [Act.put, List.setIfInBounds_toArray, List.set_cons_zero, List.set_cons_succ, List.getElem_toArray, List.getElem_cons_succ, List.getElem_cons_zero]
                    refine wpAnyH_take (i := 9) (oi := _) (v := .bool false) rfl (by kernel_rfl) (by kernel_rfl) (by kernel_rfl) (fun _ _ _ h => h) (Or.inl ⟨by rfl, fun w9 hS => ?_⟩) hHeld ?_
                    · obtain ⟨s0, s1⟩ := hS
                      go_simp
                    try simp only [Act.put, List.setIfInBounds_toArray, List.set_cons_zero, List.set_cons_succ, List.getElem_toArray, List.getElem_cons_succ, List.getElem_cons_zero]
                    refine wpAnyH_done (by kernel_rfl) ?_ _
                    have hpl : nd.ps.length ≤ 9223372036854775807 := by omega
                    go_wp2_with fail
                    go_loopw [13] (fun i wr => GreRel nd.ps.length w4 i wr) (fun i _ => nd.ps.length - (intOf i).toNat)
                    case atStart => exact ⟨0, rfl, Nat.zero_le _, hbjd⟩
                    case round =>
                      clear hbjd hbj
                      obtain ⟨r, rfl, hr', hbq⟩ := hrel
                      have cps := HC1.out wr hbq
                      by_cases hltr : r < nd.ps.length
                      · have g3 : IntKind.i64.wrap ((r : Int) + 1) = (r : Int) + 1 := IntWalk.i64_in _ (by omega)
                        have hdr : decide ((r : Int) < (nd.ps.length : Int)) = true := decide_eq_true (by omega)
                        have hdr' : (r : Int) < (nd.ps.length : Int) := by omega
                        have hr0 : (0 : Int) ≤ (r : Int) := by omega
                        obtain ⟨y, hy⟩ : ∃ y, nd.ps[r]? = some y := ⟨nd.ps[r], List.getElem?_eq_getElem hltr⟩
                        obtain ⟨pb, po, hpA, hpb, hpcell⟩ := hpr.at_ (by omega)
                        have hyin : y ∈ m1 := by
                          rw [hm1.out]
                          refine HBH.out k x HX.out y ?_
                          rw [← HNE.out, HPAR.out]
                          exact List.mem_of_getElem? hy
                        have HSS3 : Hid (∀ W, Below w4.heap.size w4 W → W.cell? ⟨nb, no + j * 2 + 1, none⟩ = some (.slice (some ⟨pb, po, none⟩) nd.ps.length nd.c) ∧ W.cell? ⟨pb, po + r, none⟩ = some (.string y)) := fun W hW => ⟨by rw [← hpA]; exact HC1.out W hW, (hW.cell (p := ⟨pb, po + r, none⟩) hpb).trans (hpcell r _ (by simp [pc, hy]))⟩
                        have HH3 : Hid (∀ W, Below w4.heap.size w4 W → Calls Try.prog 20 #[.slice (some ⟨bl, ol, none⟩) m1.length c3, .string y] W fun e w' => ∃ n, e = .returned (.bool true) ∧ w' = W.drewN n) := fun W hW => by
                          refine (HH0.out W y hW).mono ?_
                          rintro e w' ⟨v, n, rfl, hv, hw⟩
                          have e : v = true := hv.2 hyin
                          rw [e]
                          exact ⟨n, rfl, hw⟩
                        have hbqd := hbq.drew
                        clear hy hpcell hyin
                        go_wp2_with fail
                        refine wp_region_held_drew (S := fun W => W.cell? ⟨nb, no + j * 2 + 1, none⟩ = some (.slice (some ⟨pb, po, none⟩) nd.ps.length nd.c) ∧ W.cell? ⟨pb, po + r, none⟩ = some (.string y)) (by kernel_rfl) (HSS3.out _ hbqd) (fun hHeld => ?_)
                        refine wpAnyH_take (i := 0) (oi := _) (v := .slice (some ⟨bl, ol, none⟩) zs.length c3) rfl (by kernel_rfl) (by kernel_rfl) (by kernel_rfl) (fun _ _ _ h => h) (Or.inl ⟨by rfl, fun w9 hS => ?_⟩) hHeld ?_
                        · obtain ⟨s0, s1⟩ := hS
                          go_simp
                        try simp only [Act.put, List.setIfInBounds_toArray, List.set_cons_zero, List.set_cons_succ, List.getElem_toArray, List.getElem_cons_zero]
                        refine wpAnyH_take (i := 1) (oi := _) (v := .int .i64 (k : Int)) rfl (by kernel_rfl) (by kernel_rfl) (by kernel_rfl) (fun _ _ _ h => h) (Or.inl ⟨by rfl, fun w9 hS => ?_⟩) hHeld ?_
                        · obtain ⟨s0, s1⟩ := hS
                          go_simp
                        try simp only [Act.put, List.setIfInBounds_toArray, List.set_cons_zero, List.set_cons_succ, List.getElem_toArray, List.getElem_cons_succ, List.getElem_cons_zero]
                        refine wpAnyH_take (i := 2) (oi := _) (v := .slice (some ⟨bl, ol, none⟩) m1.length c3) rfl (by kernel_rfl) (by kernel_rfl) (by kernel_rfl) (fun _ _ _ h => h) (Or.inl ⟨by rfl, fun w9 hS => ?_⟩) hHeld ?_
                        · obtain ⟨s0, s1⟩ := hS
                          go_simp
                        try simp only [Act.put, List.setIfInBounds_toArray, List.set_cons_zero, List.set_cons_succ, List.getElem_toArray, List.getElem_cons_succ, List.getElem_cons_zero]
                        refine wpAnyH_take (i := 3) (oi := _) (v := .slice (some ⟨nb, no, none⟩) l.length ck) rfl (by kernel_rfl) (by kernel_rfl) (by kernel_rfl) (fun _ _ _ h => h) (Or.inl ⟨by rfl, fun w9 hS => ?_⟩) hHeld ?_
                        · obtain ⟨s0, s1⟩ := hS
                          go_simp
                        try simp only [Act.put, List.setIfInBounds_toArray, List.set_cons_zero, List.set_cons_succ, List.getElem_toArray, List.getElem_cons_succ, List.getElem_cons_zero]
                        refine wpAnyH_take (i := 4) (oi := _) (v := .int .i64 (j : Int)) rfl (by kernel_rfl) (by kernel_rfl) (by kernel_rfl) (fun _ _ _ h => h) (Or.inl ⟨by rfl, fun w9 hS => ?_⟩) hHeld ?_
                        · obtain ⟨s0, s1⟩ := hS
                          go_simp
                        try simp only [Act.put, List.setIfInBounds_toArray, List.set_cons_zero, List.set_cons_succ, List.getElem_toArray, List.getElem_cons_succ, List.getElem_cons_zero]
                        refine wpAnyH_take (i := 5) (oi := _) (v := .pointer (some ⟨nb, no + j * 2, none⟩)) rfl (by kernel_rfl) (by kernel_rfl) (by kernel_rfl) (fun _ _ _ h => h) (Or.inl ⟨by rfl, fun w9 hS => ?_⟩) hHeld ?_
                        · obtain ⟨s0, s1⟩ := hS
                          go_simp
                        try simp only [Act.put, List.setIfInBounds_toArray, List.set_cons_zero, List.set_cons_succ, List.getElem_toArray, List.getElem_cons_succ, List.getElem_cons_zero]
                        refine wpAnyH_take (i := 6) (oi := _) (v := .pointer (some ⟨nb, no + j * 2 + 1, none⟩)) rfl (by kernel_rfl) (by kernel_rfl) (by kernel_rfl) (fun _ _ _ h => h) (Or.inl ⟨by rfl, fun w9 hS => ?_⟩) hHeld ?_
                        · obtain ⟨s0, s1⟩ := hS
                          go_simp
                        try simp only [Act.put, List.setIfInBounds_toArray, List.set_cons_zero, List.set_cons_succ, List.getElem_toArray, List.getElem_cons_succ, List.getElem_cons_zero]
                        refine wpAnyH_take (i := 7) (oi := _) (v := .slice (some ⟨pb, po, none⟩) nd.ps.length nd.c) rfl (by kernel_rfl) (by kernel_rfl) (by kernel_rfl) (fun _ _ _ h => h) (Or.inl ⟨by rfl, fun w9 hS => ?_⟩) hHeld ?_
                        · obtain ⟨s0, s1⟩ := hS
                          go_simp
                        try simp only [Act.put, List.setIfInBounds_toArray, List.set_cons_zero, List.set_cons_succ, List.getElem_toArray, List.getElem_cons_succ, List.getElem_cons_zero]
                        refine wpAnyH_take (i := 8) (oi := _) (v := .int .i64 (r : Int)) rfl (by kernel_rfl) (by kernel_rfl) (by kernel_rfl) (fun _ _ _ h => h) (Or.inl ⟨by rfl, fun w9 hS => ?_⟩) hHeld ?_
                        · obtain ⟨s0, s1⟩ := hS
                          go_simp
                        try simp only [Act.put, List.setIfInBounds_toArray, List.set_cons_zero, List.set_cons_succ, List.getElem_toArray, List.getElem_cons_succ, List.getElem_cons_zero]
                        refine wpAnyH_take (i := 9) (oi := _) (v := .pointer (some ⟨pb, po + r, none⟩)) rfl (by kernel_rfl) (by kernel_rfl) (by kernel_rfl) (fun _ _ _ h => h) (Or.inl ⟨by rfl, fun w9 hS => ?_⟩) hHeld ?_
                        · obtain ⟨s0, s1⟩ := hS
                          go_simp
                        try simp only [Act.put, List.setIfInBounds_toArray, List.set_cons_zero, List.set_cons_succ, List.getElem_toArray, List.getElem_cons_succ, List.getElem_cons_zero]
                        refine wpAnyH_take (i := 10) (oi := _) (v := .string y) rfl (by kernel_rfl) (by kernel_rfl) (by kernel_rfl) (fun _ _ _ h => h) (Or.inl ⟨by rfl, fun w9 hS => ?_⟩) hHeld ?_
                        · obtain ⟨s0, s1⟩ := hS
                          go_simp
                        try simp only [Act.put, List.setIfInBounds_toArray, List.set_cons_zero, List.set_cons_succ, List.getElem_toArray, List.getElem_cons_succ, List.getElem_cons_zero]
                        refine wpAnyH_ready (rs := [11]) (by kernel_rfl) (by simp) (AllReadyH.cons (o := _) rfl (fun K hK => ?_) AllReadyH.nil)
                        go_simp
                        refine (HH3.out _ hbqd).mono ?_
                        rintro e z3 ⟨n3, rfl, hz3⟩
                        have hbz3 : Below w4.heap.size w4 z3 := by rw [hz3]; exact below_drewN hbqd n3
                        clear hz3
                        refine hK.out _ _ (HSS3.out _ hbz3) (fun hHeld => ?_)
                        clear hK K
                        try simp only [Act.put, List.setIfInBounds_toArray, List.set_cons_zero, List.set_cons_succ, List.getElem_toArray, List.getElem_cons_succ, List.getElem_cons_zero]
                        refine wpAnyH_take (i := 12) (oi := _) (v := .bool false) rfl (by kernel_rfl) (by kernel_rfl) (by kernel_rfl) (fun _ _ _ h => h) (Or.inl ⟨by rfl, fun w9 hS => ?_⟩) hHeld ?_
                        · obtain ⟨s0, s1⟩ := hS
                          go_simp
                        try simp only [Act.put, List.setIfInBounds_toArray, List.set_cons_zero, List.set_cons_succ, List.getElem_toArray, List.getElem_cons_succ, List.getElem_cons_zero]
                        refine wpAnyH_done (by kernel_rfl) ?_ _
                        go_wp2_with fail
                        exact ⟨⟨r + 1, by go_num, by omega, hbz3⟩, by simp [intOf]; omega⟩
                      · have hdr : decide ((r : Int) < (nd.ps.length : Int)) = false := decide_eq_false (by omega)
                        go_wp2_with fail
                        exact ⟨⟨j + 1, by go_num, by omega, hbq⟩, by simp [intOf]; omega⟩
                  · have heq : ¬ nd.n.toList = x.toList := fun e => hne (str_inj e)
                    clear hne
                    refine wp_region_held_drew (S := fun W => W.cell? ⟨nb, no + j * 2, none⟩ = some (.string nd.n) ∧ W.cell? ⟨bl, ol + k, none⟩ = some (.string x)) (by kernel_rfl) (HSS2.out _ hbjd) (fun hHeld => ?_)
                    refine wpAnyH_take (i := 0) (oi := _) (v := .slice (some ⟨nb, no, none⟩) l.length ck) rfl (by kernel_rfl) (by kernel_rfl) (by kernel_rfl) (fun _ _ _ h => h) (Or.inl ⟨by rfl, fun w9 hS => ?_⟩) hHeld ?_
                    · obtain ⟨s0, s1⟩ := hS
                      go_simp
                    try simp only [Act.put, List.setIfInBounds_toArray, List.set_cons_zero, List.set_cons_succ, List.getElem_toArray, List.getElem_cons_zero]
                    refine wpAnyH_take (i := 1) (oi := _) (v := .int .i64 (j : Int)) rfl (by kernel_rfl) (by kernel_rfl) (by kernel_rfl) (fun _ _ _ h => h) (Or.inl ⟨by rfl, fun w9 hS => ?_⟩) hHeld ?_
                    · obtain ⟨s0, s1⟩ := hS
                      go_simp
                    try simp only [Act.put, List.setIfInBounds_toArray, List.set_cons_zero, List.set_cons_succ, List.getElem_toArray, List.getElem_cons_succ, List.getElem_cons_zero]
                    refine wpAnyH_take (i := 2) (oi := _) (v := .pointer (some ⟨nb, no + j * 2, none⟩)) rfl (by kernel_rfl) (by kernel_rfl) (by kernel_rfl) (fun _ _ _ h => h) (Or.inl ⟨by rfl, fun w9 hS => ?_⟩) hHeld ?_
                    · obtain ⟨s0, s1⟩ := hS
                      go_simp
                    try simp only [Act.put, List.setIfInBounds_toArray, List.set_cons_zero, List.set_cons_succ, List.getElem_toArray, List.getElem_cons_succ, List.getElem_cons_zero]
                    refine wpAnyH_take (i := 3) (oi := _) (v := .pointer (some ⟨nb, no + j * 2, none⟩)) rfl (by kernel_rfl) (by kernel_rfl) (by kernel_rfl) (fun _ _ _ h => h) (Or.inl ⟨by rfl, fun w9 hS => ?_⟩) hHeld ?_
                    · obtain ⟨s0, s1⟩ := hS
                      go_simp
                    try simp only [Act.put, List.setIfInBounds_toArray, List.set_cons_zero, List.set_cons_succ, List.getElem_toArray, List.getElem_cons_succ, List.getElem_cons_zero]
                    refine wpAnyH_take (i := 4) (oi := _) (v := .string nd.n) rfl (by kernel_rfl) (by kernel_rfl) (by kernel_rfl) (fun _ _ _ h => h) (Or.inl ⟨by rfl, fun w9 hS => ?_⟩) hHeld ?_
                    · obtain ⟨s0, s1⟩ := hS
                      go_simp
                    try simp only [Act.put, List.setIfInBounds_toArray, List.set_cons_zero, List.set_cons_succ, List.getElem_toArray, List.getElem_cons_succ, List.getElem_cons_zero]
                    refine wpAnyH_take (i := 5) (oi := _) (v := .slice (some ⟨bl, ol, none⟩) zs.length c3) rfl (by kernel_rfl) (by kernel_rfl) (by kernel_rfl) (fun _ _ _ h => h) (Or.inl ⟨by rfl, fun w9 hS => ?_⟩) hHeld ?_
                    · obtain ⟨s0, s1⟩ := hS
                      go_simp
                    try simp only [Act.put, List.setIfInBounds_toArray, List.set_cons_zero, List.set_cons_succ, List.getElem_toArray, List.getElem_cons_succ, List.getElem_cons_zero]
                    refine wpAnyH_take (i := 6) (oi := _) (v := .int .i64 (k : Int)) rfl (by kernel_rfl) (by kernel_rfl) (by kernel_rfl) (fun _ _ _ h => h) (Or.inl ⟨by rfl, fun w9 hS => ?_⟩) hHeld ?_
                    · obtain ⟨s0, s1⟩ := hS
                      go_simp
                    try simp only [Act.put, List.setIfInBounds_toArray, List.set_cons_zero, List.set_cons_succ, List.getElem_toArray, List.getElem_cons_succ, List.getElem_cons_zero]
                    refine wpAnyH_take (i := 7) (oi := _) (v := .pointer (some ⟨bl, ol + k, none⟩)) rfl (by kernel_rfl) (by kernel_rfl) (by kernel_rfl) (fun _ _ _ h => h) (Or.inl ⟨by rfl, fun w9 hS => ?_⟩) hHeld ?_
                    · obtain ⟨s0, s1⟩ := hS
                      go_simp
                    try simp only [Act.put, List.setIfInBounds_toArray, List.set_cons_zero, List.set_cons_succ, List.getElem_toArray, List.getElem_cons_succ, List.getElem_cons_zero]
                    refine wpAnyH_take (i := 8) (oi := _) (v := .string x) rfl (by kernel_rfl) (by kernel_rfl) (by kernel_rfl) (fun _ _ _ h => h) (Or.inl ⟨by rfl, fun w9 hS => ?_⟩) hHeld ?_
                    · obtain ⟨s0, s1⟩ := hS
                      go_simp
                    try simp only [Act.put, List.setIfInBounds_toArray, List.set_cons_zero, List.set_cons_succ, List.getElem_toArray, List.getElem_cons_succ, List.getElem_cons_zero]
                    refine wpAnyH_take (i := 9) (oi := _) (v := .bool true) rfl (by kernel_rfl) (by kernel_rfl) (by kernel_rfl) (fun _ _ _ h => h) (Or.inl ⟨by rfl, fun w9 hS => ?_⟩) hHeld ?_
                    · obtain ⟨s0, s1⟩ := hS
                      go_simp
                    try simp only [Act.put, List.setIfInBounds_toArray, List.set_cons_zero, List.set_cons_succ, List.getElem_toArray, List.getElem_cons_succ, List.getElem_cons_zero]
                    refine wpAnyH_done (by kernel_rfl) ?_ _
                    go_wp2_with fail
                    exact ⟨⟨j + 1, by go_num, by omega, hbjd⟩, by simp [intOf]; omega⟩
                · have hdj : decide ((j : Int) < (l.length : Int)) = false := decide_eq_false (by omega)
                  go_wp2_with fail
                  exact ⟨⟨k + 1, by go_num, by omega, hbj⟩, by simp [intOf]; omega⟩
            · have hd : decide ((k : Int) < (zs.length : Int)) = false := decide_eq_false (by omega)
              have hfin := hb24.next hbr
              go_wp2_with fail
              go_ret
              exact ⟨rfl, hfin⟩
end Go.Proofs.Yteeajmgiamdfdaa
