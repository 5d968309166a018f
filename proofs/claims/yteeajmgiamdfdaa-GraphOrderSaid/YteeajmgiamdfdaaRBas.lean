/- The walk of the document's Bases. Conditions: fewer than 2^39 texts are to be looked at. -/
import Derived.Test.YteeajmgiamdfdaaRClo
import Derived.Test.YteeajmgiamdfdaaBasLaw
namespace Go.Proofs.Yteeajmgiamdfdaa
open Go.RowKit Go.Dol
set_option linter.unusedVariables false
/-- Some ids of a row, in order. -/
def FltRel (l : List ByteArray) (pr : ByteArray → Bool) (w : World) (q i : Value) (wr : World) : Prop :=
  ∃ (k : Nat) (ys : List ByteArray) (A : Option Addr) (c : Nat), q = .slice A ys.length c ∧ i = .int .i64 k ∧ k ≤ l.length ∧ Hid (ys = (l.take k).filter pr) ∧ ys.length ≤ k ∧ wr.ownsRow w.heap.size 9 1 (.slice A ys.length c) ys.length (pc ys) ∧ Below w.heap.size w wr
/-- Has none of the first k told against it? -/
def BestRel (L : List Nd) (cm : List ByteArray) (x : ByteArray) (v0 : World) (b i : Value) (wr : World) : Prop :=
  ∃ (k : Nat) (u : Bool), b = .bool u ∧ i = .int .i64 k ∧ k ≤ cm.length ∧ Hid (u = true ↔ ∀ j, j < k → ∀ o, cm[j]? = some o → ¬ (Rch L [o] x ∧ ¬ Rch L [x] o)) ∧ Below v0.heap.size v0 wr
set_option maxRecDepth 100000 in
set_option maxHeartbeats 8000000 in
theorem refBases_calls (A : Option Addr) (l : List NdA) (c : Nat) (a b : ByteArray) (w : World) (h : NdsOk w A l) (hl : 1 + room (l.map NdA.f) [] [] ≤ 549755813888) :
    Calls Try.prog 17 #[.slice A l.length c, .string a, .string b] w (RetIds w (BaseP (l.map NdA.f) a b)) := by
  have hC1 := fun (x : ByteArray) (W : World) (hW : NdsOk W A l) => refClosure_calls A l c (some ⟨W.heap.size, 0, none⟩) [x] 1 (W.alloc (.cells #[.string x] 9)) (hW.below ((Below.refl _ _).alloc (Nat.le_refl _) _)) (by have := Rd.new1 W 9 (.string x); simpa [pc] using this) (by simpa using hl)
  have HC := Lib.hid hC1
  clear hC1
  have ba : ∀ (W : World) (x : ByteArray), Below W.heap.size W (W.alloc (.cells #[.string x] 9)) := fun W x => (Below.refl _ _).alloc (Nat.le_refl _) _
  have BA := Lib.hid ba
  clear ba
  go_enter Try.func17, Try.ntmps17
  go_wp2_with fail
  refine (HC.out a w h).mono ?_
  rintro e w1 ⟨Lx, Ax, cx, rfl, hsx, hmx, hlx, hox, hb1⟩
  have hb01 := (BA.out w a).next hb1
  have h1 := h.below hb01
  have hrx := Rd.of_own hox
  clear hox hb1
  go_wp2_with fail
  refine (HC.out b w1 h1).mono ?_
  rintro e w2 ⟨Ly, Ay, cy, rfl, hsy, hmy, hly, hoy, hb2⟩
  have hb12 := (BA.out w1 b).next hb2
  have hb02 := hb01.next hb12
  have hrx2 : Rd w2 w2.heap.size 1 Ax Lx.length (pc Lx) := (hrx.below hb12).more hb12.size
  have hry2 := Rd.of_own hoy
  have h2 := h.below hb02
  clear hrx hoy hb2 hb12 hb01 h1 HC BA
  have hs02 := hb02.size
  go_wp2_with fail
  go_loopw [9, 10] (fun q i wr => FltRel Lx (fun x => decide (x ∈ Ly)) w2 q i wr) (fun _ i _ => Lx.length - (intOf i).toNat)
  case atStart => exact ⟨0, [], none, 0, rfl, rfl, Nat.zero_le _, rfl, Nat.le_refl _, World.ownsRow_nil _ _ _ _, Below.refl _ _⟩
  case round =>
    obtain ⟨k, ys, A5, c5, rfl, rfl, hk, hy, hyl, ho, hb⟩ := hrel
    have hs := hb.size
    have f1 : IntKind.i64.wrap ((k : Int) + 1) = (k : Int) + 1 := IntWalk.i64_in _ (by omega)
    by_cases hlt : k < Lx.length
    · have hd : decide ((k : Int) < (Lx.length : Int)) = true := decide_eq_true (by omega)
      have hd' : (k : Int) < (Lx.length : Int) := by omega
      have hk0 : (0 : Int) ≤ (k : Int) := by omega
      obtain ⟨x, hx⟩ : ∃ x, Lx[k]? = some x := ⟨Lx[k], List.getElem?_eq_getElem hlt⟩
      have hnext := filter_snoc (fun x => decide (x ∈ Ly)) Lx k x hx
      obtain ⟨bl, ol, rfl, hbl, hcl⟩ := hrx2.at_ (by omega)
      have cx0 : w2.cell? ⟨bl, ol + k, none⟩ = some (.string x) := hcl k _ (by simp [pc, hx])
      have cx1 : wr.cell? ⟨bl, ol + k, none⟩ = some (.string x) := (hb.cell (p := ⟨bl, ol + k, none⟩) hbl).trans cx0
      have HH := Lib.hid (refHas_calls Ay Ly cy x wr w2.heap.size (hry2.belowW hb (Nat.le_refl _)) (by omega))
      have HX := Lib.hid hnext
      clear hnext hx hcl cx0
      go_wp2_with fail
      refine HH.out.mono ?_
      rintro e v1 ⟨v, nq, rfl, hv, hw1⟩
      have hb3 : Below w2.heap.size w2 v1 := by rw [hw1]; exact below_drewN hb nq
      have ho3 : v1.ownsRow w2.heap.size 9 1 (.slice A5 ys.length c5) ys.length (pc ys) := by rw [hw1]; exact ho
      have cx3 : v1.cell? ⟨bl, ol + k, none⟩ = some (.string x) := by rw [hw1]; exact cx1
      clear hw1 hb ho cx1 HH hs
      have hs3 := hb3.size
      cases v with
      | true =>
        have hin : x ∈ Ly := hv.1 rfl
        have HN : Hid ((Lx.take (k + 1)).filter (fun x => decide (x ∈ Ly)) = ys ++ [x]) := by unfold Hid; rw [HX.out, hy.out]; simp [hin]
        clear hv hin
        have hn1 := Rd.new1 v1 9 (.string x)
        go_wp2_with (at_builtin; refine appVl rfl (.tmp 35) (.tmp 40) 26 9 _ 16 rfl Try.underlying26 info_string rfl w2.heap.size _ ys.length (pc ys) rfl (ho3.alloc _) (v1.heap.size + 1) _ 1 1 [Value.string x] rfl hn1 (by simp [Value.oneCell']) (by unfold maxLen; omega) (by omega) (by simp; omega) ?_; intro A11 c11 w11 y1 y2 y3 y4 y5; have hb11 := (hb3.alloc hs3 (.cells #[Value.string x] 9)).trans y2)
        have hyl2 : (ys ++ [x]).length = ys.length + 1 := by rw [List.length_append]; rfl
        refine ⟨⟨k + 1, ys ++ [x], A11, c11, by rw [hyl2], by go_num, by omega, HN.out.symm, by omega, ?_, hb11⟩, by simp [intOf]; omega⟩
        rw [hyl2, pc_append]
        exact y1
      | false =>
        have hin : x ∉ Ly := fun h => by simpa using hv.2 h
        have HN : Hid ((Lx.take (k + 1)).filter (fun x => decide (x ∈ Ly)) = ys) := by unfold Hid; rw [HX.out, hy.out]; simp [hin]
        clear hv hin
        go_wp2_with fail
        exact ⟨⟨k + 1, ys, A5, c5, rfl, by go_num, by omega, HN.out.symm, by omega, ho3, hb3⟩, by simp [intOf]; omega⟩
    · have hd : decide ((k : Int) < (Lx.length : Int)) = false := decide_eq_false (by omega)
      have hkf : ys = bothL Lx Ly := by rw [hy.out, List.take_of_length_le (by omega)]; rfl
      have hcs : Strict ys := by rw [hkf]; exact hsx.out.filter _
      have hcm : ∀ x, x ∈ ys ↔ Rch (l.map NdA.f) [a] x ∧ Rch (l.map NdA.f) [b] x := fun x => by rw [hkf, bothL_mem, hmx.out, hmy.out]
      obtain ⟨ht1, ht2⟩ := bases_ids hcs hcm
      have HT1 := Lib.hid ht1
      have HT2 := Lib.hid ht2
      have hb3 := hb02.next hb
      have h3 := h.below hb3
      have hyl3 : ys.length ≤ 549755813888 := by omega
      have hrY := Rd.of_own ho
      have hs3 := hb3.size
      clear hkf hcs hcm ht1 ht2 hy hsx hmx hsy hmy hrx2 hry2 ho h2 hb hs hs02 hb02
      go_wp2_with fail
      obtain ⟨w3, hw3⟩ : ∃ v, v = wr := ⟨_, rfl⟩
      subst hw3
      go_loopw [11, 12] (fun q i wr => FltRel ys (bestB (l.map NdA.f) ys) w3 q i wr) (fun _ i _ => ys.length - (intOf i).toNat)
      case atStart => exact ⟨0, [], none, 0, rfl, rfl, Nat.zero_le _, rfl, Nat.le_refl _, World.ownsRow_nil _ _ _ _, Below.refl _ _⟩
      case round =>
        clear hk hyl hlt hd f1
        obtain ⟨i, zs, A7, c7, rfl, rfl, hk, hz, hzl, ho, hb⟩ := hrel
        have hs := hb.size
        have f1 : IntKind.i64.wrap ((i : Int) + 1) = (i : Int) + 1 := IntWalk.i64_in _ (by omega)
        by_cases hlt : i < ys.length
        · have hd : decide ((i : Int) < (ys.length : Int)) = true := decide_eq_true (by omega)
          have hd' : (i : Int) < (ys.length : Int) := by omega
          have hi0 : (0 : Int) ≤ (i : Int) := by omega
          obtain ⟨x, hx⟩ : ∃ x, ys[i]? = some x := ⟨ys[i], List.getElem?_eq_getElem hlt⟩
          have hnext := filter_snoc (bestB (l.map NdA.f) ys) ys i x hx
          have HX := Lib.hid hnext
          have HXi := Lib.hid hx
          have hrw := hrY.belowW hb (Nat.le_refl _)
          obtain ⟨bl, ol, rfl, hbl, hcl⟩ := hrw.at_ (by omega)
          have cx1 : wr.cell? ⟨bl, ol + i, none⟩ = some (.string x) := hcl i _ (by simp [pc, hx])
          have hbl2 : bl < wr.heap.size := by omega
          have h5 := h3.below hb
          obtain ⟨v0, hv0⟩ : ∃ v, v = wr := ⟨_, rfl⟩
          rw [← hv0]
          rw [← hv0] at cx1 hcl hbl2 h5 ho hb hs
          clear hv0 hnext hx hrw
          go_wp2_with fail
          go_loopw [13, 14] (fun u j wr => BestRel (l.map NdA.f) ys x v0 u j wr) (fun _ j _ => ys.length - (intOf j).toNat)
          case atStart => exact ⟨0, true, rfl, rfl, Nat.zero_le _, ⟨fun _ j hj => by omega, fun _ => rfl⟩, Below.refl _ _⟩
          case round =>
            obtain ⟨j, u, rfl, rfl, hj, hu, hbj⟩ := hrel
            have f2 : IntKind.i64.wrap ((j : Int) + 1) = (j : Int) + 1 := IntWalk.i64_in _ (by omega)
            by_cases hltj : j < ys.length
            · have hdj : decide ((j : Int) < (ys.length : Int)) = true := decide_eq_true (by omega)
              have hdj' : (j : Int) < (ys.length : Int) := by omega
              have hj0 : (0 : Int) ≤ (j : Int) := by omega
              obtain ⟨oo, hoo⟩ : ∃ x, ys[j]? = some x := ⟨ys[j], List.getElem?_eq_getElem hltj⟩
              have co0 : v0.cell? ⟨bl, ol + j, none⟩ = some (.string oo) := hcl j _ (by simp [pc, hoo])
              have HU : Hid ((u = true ∧ ¬ (Rch (l.map NdA.f) [oo] x ∧ ¬ Rch (l.map NdA.f) [x] oo)) ↔ ∀ j', j' < j + 1 → ∀ o, ys[j']? = some o → ¬ (Rch (l.map NdA.f) [o] x ∧ ¬ Rch (l.map NdA.f) [x] o)) := by
                constructor
                · rintro ⟨h1, h2⟩ j' hj' o ho
                  by_cases e : j' = j
                  · rw [e, hoo] at ho
                    injection ho with ho
                    rw [← ho]
                    exact h2
                  · exact hu.out.1 h1 j' (by omega) o ho
                · intro h1
                  exact ⟨hu.out.2 fun j' hj' => h1 j' (by omega), h1 j (by omega) oo hoo⟩
              have HSS : Hid (∀ W, Below v0.heap.size v0 W → W.cell? ⟨bl, ol + j, none⟩ = some (.string oo) ∧ W.cell? ⟨bl, ol + i, none⟩ = some (.string x)) := fun W hW => ⟨(hW.cell (p := ⟨bl, ol + j, none⟩) hbl2).trans co0, (hW.cell (p := ⟨bl, ol + i, none⟩) hbl2).trans cx1⟩
              have hbd := hbj.drew
              have HJI : Hid (j = i → oo = x) := fun e => by have := HXi.out; rw [← e, hoo] at this; injection this
              clear hoo co0 hu hcl cx1 h3 hrY
              go_wp2_with fail
              by_cases hji : j = i
              · have dji : ((j : Int) != (i : Int)) = false := by simp [hji]
                have HG : Hid (¬ (Rch (l.map NdA.f) [oo] x ∧ ¬ Rch (l.map NdA.f) [x] oo)) := fun hg => by have e := HJI.out hji; rw [e] at hg; exact hg.2 hg.1
                have hJI := Lib.hid hji
                clear hji
                refine wp_region_held_drew (S := fun W => W.cell? ⟨bl, ol + j, none⟩ = some (.string oo) ∧ W.cell? ⟨bl, ol + i, none⟩ = some (.string x)) (by kernel_rfl) (HSS.out _ hbd) (fun hHeld => ?_)
                refine wpAnyH_take (i := 0) (oi := _) (v := .int .i64 j) rfl (by kernel_rfl) (by kernel_rfl) (by kernel_rfl) (fun _ _ _ h => h) (Or.inl ⟨by rfl, fun w9 hS => ?_⟩) hHeld ?_
                · obtain ⟨s0, s1⟩ := hS
                  go_simp
                try simp only [Act.put, List.setIfInBounds_toArray, List.set_cons_zero, List.set_cons_succ, List.getElem_toArray, List.getElem_cons_zero]
                refine wpAnyH_take (i := 1) (oi := _) (v := .int .i64 i) rfl (by kernel_rfl) (by kernel_rfl) (by kernel_rfl) (fun _ _ _ h => h) (Or.inl ⟨by rfl, fun w9 hS => ?_⟩) hHeld ?_
                · obtain ⟨s0, s1⟩ := hS
                  go_simp
                try simp only [Act.put, List.setIfInBounds_toArray, List.set_cons_zero, List.set_cons_succ, List.getElem_toArray, List.getElem_cons_succ, List.getElem_cons_zero]
                refine wpAnyH_take (i := 2) (oi := _) (v := .bool false) rfl (by kernel_rfl) (by kernel_rfl) (by kernel_rfl) (fun _ _ _ h => h) (Or.inl ⟨by rfl, fun w9 hS => ?_⟩) hHeld ?_
                · obtain ⟨s0, s1⟩ := hS
                  go_simp
                try simp only [Act.put, List.setIfInBounds_toArray, List.set_cons_zero, List.set_cons_succ, List.getElem_toArray, List.getElem_cons_succ, List.getElem_cons_zero]
                refine wpAnyH_take (i := 3) (oi := _) (v := .bool false) rfl (by kernel_rfl) (by kernel_rfl) (by kernel_rfl) (fun _ _ _ h => h) (Or.inl ⟨by rfl, fun w9 hS => ?_⟩) hHeld ?_
                · obtain ⟨s0, s1⟩ := hS
                  go_simp
                try simp only [Act.put, List.setIfInBounds_toArray, List.set_cons_zero, List.set_cons_succ, List.getElem_toArray, List.getElem_cons_succ, List.getElem_cons_zero]
                refine wpAnyH_take (i := 4) (oi := _) (v := undef) rfl (by kernel_rfl) (by kernel_rfl) (by kernel_rfl) (fun _ _ _ h => h) (Or.inr ⟨by rfl, rfl⟩) hHeld ?_
                try simp only [Act.put, List.setIfInBounds_toArray, List.set_cons_zero, List.set_cons_succ, List.getElem_toArray, List.getElem_cons_succ, List.getElem_cons_zero]
                refine wpAnyH_take (i := 5) (oi := _) (v := undef) rfl (by kernel_rfl) (by kernel_rfl) (by kernel_rfl) (fun _ _ _ h => h) (Or.inr ⟨by rfl, rfl⟩) hHeld ?_
                try simp only [Act.put, List.setIfInBounds_toArray, List.set_cons_zero, List.set_cons_succ, List.getElem_toArray, List.getElem_cons_succ, List.getElem_cons_zero]
                refine wpAnyH_take (i := 6) (oi := _) (v := undef) rfl (by kernel_rfl) (by kernel_rfl) (by kernel_rfl) (fun _ _ _ h => h) (Or.inr ⟨by rfl, rfl⟩) hHeld ?_
                try simp only [Act.put, List.setIfInBounds_toArray, List.set_cons_zero, List.set_cons_succ, List.getElem_toArray, List.getElem_cons_succ, List.getElem_cons_zero]
                refine wpAnyH_take (i := 7) (oi := _) (v := undef) rfl (by kernel_rfl) (by kernel_rfl) (by kernel_rfl) (fun _ _ _ h => h) (Or.inr ⟨by rfl, rfl⟩) hHeld ?_
                try simp only [Act.put, List.setIfInBounds_toArray, List.set_cons_zero, List.set_cons_succ, List.getElem_toArray, List.getElem_cons_succ, List.getElem_cons_zero]
                refine wpAnyH_take (i := 8) (oi := _) (v := undef) rfl (by kernel_rfl) (by kernel_rfl) (by kernel_rfl) (fun _ _ _ h => h) (Or.inr ⟨by rfl, rfl⟩) hHeld ?_
                try simp only [Act.put, List.setIfInBounds_toArray, List.set_cons_zero, List.set_cons_succ, List.getElem_toArray, List.getElem_cons_succ, List.getElem_cons_zero]
                refine wpAnyH_take (i := 9) (oi := _) (v := undef) rfl (by kernel_rfl) (by kernel_rfl) (by kernel_rfl) (fun _ _ _ h => h) (Or.inr ⟨by rfl, rfl⟩) hHeld ?_
                try simp only [Act.put, List.setIfInBounds_toArray, List.set_cons_zero, List.set_cons_succ, List.getElem_toArray, List.getElem_cons_succ, List.getElem_cons_zero]
                refine wpAnyH_take (i := 10) (oi := _) (v := undef) rfl (by kernel_rfl) (by kernel_rfl) (by kernel_rfl) (fun _ _ _ h => h) (Or.inr ⟨by rfl, rfl⟩) hHeld ?_
                try simp only [Act.put, List.setIfInBounds_toArray, List.set_cons_zero, List.set_cons_succ, List.getElem_toArray, List.getElem_cons_succ, List.getElem_cons_zero]
                refine wpAnyH_take (i := 11) (oi := _) (v := undef) rfl (by kernel_rfl) (by kernel_rfl) (by kernel_rfl) (fun _ _ _ h => h) (Or.inr ⟨by rfl, rfl⟩) hHeld ?_
                try simp only [Act.put, List.setIfInBounds_toArray, List.set_cons_zero, List.set_cons_succ, List.getElem_toArray, List.getElem_cons_succ, List.getElem_cons_zero]
                refine wpAnyH_take (i := 12) (oi := _) (v := undef) rfl (by kernel_rfl) (by kernel_rfl) (by kernel_rfl) (fun _ _ _ h => h) (Or.inr ⟨by rfl, rfl⟩) hHeld ?_
                try simp only [Act.put, List.setIfInBounds_toArray, List.set_cons_zero, List.set_cons_succ, List.getElem_toArray, List.getElem_cons_succ, List.getElem_cons_zero]
                refine wpAnyH_take (i := 13) (oi := _) (v := undef) rfl (by kernel_rfl) (by kernel_rfl) (by kernel_rfl) (fun _ _ _ h => h) (Or.inr ⟨by rfl, rfl⟩) hHeld ?_
                try simp only [Act.put, List.setIfInBounds_toArray, List.set_cons_zero, List.set_cons_succ, List.getElem_toArray, List.getElem_cons_succ, List.getElem_cons_zero]
                refine wpAnyH_take (i := 14) (oi := _) (v := .bool false) rfl (by kernel_rfl) (by kernel_rfl) (by kernel_rfl) (fun _ _ _ h => h) (Or.inl ⟨by rfl, fun w9 hS => ?_⟩) hHeld ?_
                · obtain ⟨s0, s1⟩ := hS
                  go_simp
                try simp only [Act.put, List.setIfInBounds_toArray, List.set_cons_zero, List.set_cons_succ, List.getElem_toArray, List.getElem_cons_succ, List.getElem_cons_zero]
                refine wpAnyH_take (i := 15) (oi := _) (v := .bool false) rfl (by kernel_rfl) (by kernel_rfl) (by kernel_rfl) (fun _ _ _ h => h) (Or.inl ⟨by rfl, fun w9 hS => ?_⟩) hHeld ?_
                · obtain ⟨s0, s1⟩ := hS
                  go_simp
                try simp only [Act.put, List.setIfInBounds_toArray, List.set_cons_zero, List.set_cons_succ, List.getElem_toArray, List.getElem_cons_succ, List.getElem_cons_zero]
                refine wpAnyH_take (i := 16) (oi := _) (v := undef) rfl (by kernel_rfl) (by kernel_rfl) (by kernel_rfl) (fun _ _ _ h => h) (Or.inr ⟨by rfl, rfl⟩) hHeld ?_
                try simp only [Act.put, List.setIfInBounds_toArray, List.set_cons_zero, List.set_cons_succ, List.getElem_toArray, List.getElem_cons_succ, List.getElem_cons_zero]
                refine wpAnyH_take (i := 17) (oi := _) (v := undef) rfl (by kernel_rfl) (by kernel_rfl) (by kernel_rfl) (fun _ _ _ h => h) (Or.inr ⟨by rfl, rfl⟩) hHeld ?_
                try simp only [Act.put, List.setIfInBounds_toArray, List.set_cons_zero, List.set_cons_succ, List.getElem_toArray, List.getElem_cons_succ, List.getElem_cons_zero]
                refine wpAnyH_take (i := 18) (oi := _) (v := undef) rfl (by kernel_rfl) (by kernel_rfl) (by kernel_rfl) (fun _ _ _ h => h) (Or.inr ⟨by rfl, rfl⟩) hHeld ?_
                try simp only [Act.put, List.setIfInBounds_toArray, List.set_cons_zero, List.set_cons_succ, List.getElem_toArray, List.getElem_cons_succ, List.getElem_cons_zero]
                refine wpAnyH_take (i := 19) (oi := _) (v := undef) rfl (by kernel_rfl) (by kernel_rfl) (by kernel_rfl) (fun _ _ _ h => h) (Or.inr ⟨by rfl, rfl⟩) hHeld ?_
                try simp only [Act.put, List.setIfInBounds_toArray, List.set_cons_zero, List.set_cons_succ, List.getElem_toArray, List.getElem_cons_succ, List.getElem_cons_zero]
                refine wpAnyH_take (i := 20) (oi := _) (v := undef) rfl (by kernel_rfl) (by kernel_rfl) (by kernel_rfl) (fun _ _ _ h => h) (Or.inr ⟨by rfl, rfl⟩) hHeld ?_
                try simp only [Act.put, List.setIfInBounds_toArray, List.set_cons_zero, List.set_cons_succ, List.getElem_toArray, List.getElem_cons_succ, List.getElem_cons_zero]
                refine wpAnyH_take (i := 21) (oi := _) (v := undef) rfl (by kernel_rfl) (by kernel_rfl) (by kernel_rfl) (fun _ _ _ h => h) (Or.inr ⟨by rfl, rfl⟩) hHeld ?_
                try simp only [Act.put, List.setIfInBounds_toArray, List.set_cons_zero, List.set_cons_succ, List.getElem_toArray, List.getElem_cons_succ, List.getElem_cons_zero]
                refine wpAnyH_take (i := 22) (oi := _) (v := undef) rfl (by kernel_rfl) (by kernel_rfl) (by kernel_rfl) (fun _ _ _ h => h) (Or.inr ⟨by rfl, rfl⟩) hHeld ?_
                try simp only [Act.put, List.setIfInBounds_toArray, List.set_cons_zero, List.set_cons_succ, List.getElem_toArray, List.getElem_cons_succ, List.getElem_cons_zero]
                refine wpAnyH_take (i := 23) (oi := _) (v := undef) rfl (by kernel_rfl) (by kernel_rfl) (by kernel_rfl) (fun _ _ _ h => h) (Or.inr ⟨by rfl, rfl⟩) hHeld ?_
                try simp only [Act.put, List.setIfInBounds_toArray, List.set_cons_zero, List.set_cons_succ, List.getElem_toArray, List.getElem_cons_succ, List.getElem_cons_zero]
                refine wpAnyH_take (i := 24) (oi := _) (v := undef) rfl (by kernel_rfl) (by kernel_rfl) (by kernel_rfl) (fun _ _ _ h => h) (Or.inr ⟨by rfl, rfl⟩) hHeld ?_
                try simp only [Act.put, List.setIfInBounds_toArray, List.set_cons_zero, List.set_cons_succ, List.getElem_toArray, List.getElem_cons_succ, List.getElem_cons_zero]
                refine wpAnyH_take (i := 25) (oi := _) (v := undef) rfl (by kernel_rfl) (by kernel_rfl) (by kernel_rfl) (fun _ _ _ h => h) (Or.inr ⟨by rfl, rfl⟩) hHeld ?_
                try simp only [Act.put, List.setIfInBounds_toArray, List.set_cons_zero, List.set_cons_succ, List.getElem_toArray, List.getElem_cons_succ, List.getElem_cons_zero]
                refine wpAnyH_take (i := 26) (oi := _) (v := undef) rfl (by kernel_rfl) (by kernel_rfl) (by kernel_rfl) (fun _ _ _ h => h) (Or.inr ⟨by rfl, rfl⟩) hHeld ?_
                try simp only [Act.put, List.setIfInBounds_toArray, List.set_cons_zero, List.set_cons_succ, List.getElem_toArray, List.getElem_cons_succ, List.getElem_cons_zero]
                refine wpAnyH_take (i := 27) (oi := _) (v := .bool false) rfl (by kernel_rfl) (by kernel_rfl) (by kernel_rfl) (fun _ _ _ h => h) (Or.inl ⟨by rfl, fun w9 hS => ?_⟩) hHeld ?_
                · obtain ⟨s0, s1⟩ := hS
                  go_simp
                try simp only [Act.put, List.setIfInBounds_toArray, List.set_cons_zero, List.set_cons_succ, List.getElem_toArray, List.getElem_cons_succ, List.getElem_cons_zero]
                refine wpAnyH_done (by kernel_rfl) ?_ _
                go_wp2_with fail
                exact ⟨⟨j + 1, u, rfl, by go_num, by omega, ⟨fun hu => HU.out.1 ⟨hu, HG.out⟩, fun hx => (HU.out.2 hx).1⟩, hbd⟩, by simp [intOf]; omega⟩
              · have dji : ((j : Int) != (i : Int)) = true := by simp; omega
                have dji2 : decide ((j : Int) = (i : Int)) = false := decide_eq_false (by omega)
                clear hji
                have HC1 := Lib.hid (fun W hW => refReaches_calls A l c oo x W hW hl)
                have HC2 := Lib.hid (fun W hW => refReaches_calls A l c x oo W hW hl)
                have hb03 := hb3
                have hbw := hb
                by_cases hr1 : Rch (l.map NdA.f) [oo] x
                · by_cases hr2 : Rch (l.map NdA.f) [x] oo
                  · have HG : Hid (¬ (Rch (l.map NdA.f) [oo] x ∧ ¬ Rch (l.map NdA.f) [x] oo)) := fun hg => hg.2 hr2
                    refine wp_region_held_drew (S := fun W => W.cell? ⟨bl, ol + j, none⟩ = some (.string oo) ∧ W.cell? ⟨bl, ol + i, none⟩ = some (.string x)) (by kernel_rfl) (HSS.out _ hbd) (fun hHeld => ?_)
                    refine wpAnyH_take (i := 0) (oi := _) (v := .int .i64 j) rfl (by kernel_rfl) (by kernel_rfl) (by kernel_rfl) (fun _ _ _ h => h) (Or.inl ⟨by rfl, fun w9 hS => ?_⟩) hHeld ?_
                    · obtain ⟨s0, s1⟩ := hS
                      go_simp
                    try simp only [Act.put, List.setIfInBounds_toArray, List.set_cons_zero, List.set_cons_succ, List.getElem_toArray, List.getElem_cons_zero]
                    refine wpAnyH_take (i := 1) (oi := _) (v := .int .i64 i) rfl (by kernel_rfl) (by kernel_rfl) (by kernel_rfl) (fun _ _ _ h => h) (Or.inl ⟨by rfl, fun w9 hS => ?_⟩) hHeld ?_
                    · obtain ⟨s0, s1⟩ := hS
                      go_simp
                    try simp only [Act.put, List.setIfInBounds_toArray, List.set_cons_zero, List.set_cons_succ, List.getElem_toArray, List.getElem_cons_succ, List.getElem_cons_zero]
                    refine wpAnyH_take (i := 2) (oi := _) (v := .bool true) rfl (by kernel_rfl) (by kernel_rfl) (by kernel_rfl) (fun _ _ _ h => h) (Or.inl ⟨by rfl, fun w9 hS => ?_⟩) hHeld ?_
                    · obtain ⟨s0, s1⟩ := hS
                      go_simp
                    try simp only [Act.put, List.setIfInBounds_toArray, List.set_cons_zero, List.set_cons_succ, List.getElem_toArray, List.getElem_cons_succ, List.getElem_cons_zero]
                    refine wpAnyH_take (i := 3) (oi := _) (v := .bool true) rfl (by kernel_rfl) (by kernel_rfl) (by kernel_rfl) (fun _ _ _ h => h) (Or.inl ⟨by rfl, fun w9 hS => ?_⟩) hHeld ?_
                    · obtain ⟨s0, s1⟩ := hS
                      go_simp
                    try simp only [Act.put, List.setIfInBounds_toArray, List.set_cons_zero, List.set_cons_succ, List.getElem_toArray, List.getElem_cons_succ, List.getElem_cons_zero]
                    refine wpAnyH_take (i := 4) (oi := _) (v := .slice A l.length c) rfl (by kernel_rfl) (by kernel_rfl) (by kernel_rfl) (fun _ _ _ h => h) (Or.inl ⟨by rfl, fun w9 hS => ?_⟩) hHeld ?_
                    · obtain ⟨s0, s1⟩ := hS
                      go_simp
                    try simp only [Act.put, List.setIfInBounds_toArray, List.set_cons_zero, List.set_cons_succ, List.getElem_toArray, List.getElem_cons_succ, List.getElem_cons_zero]
                    refine wpAnyH_take (i := 5) (oi := _) (v := .slice (some ⟨bl, ol, none⟩) ys.length c5) rfl (by kernel_rfl) (by kernel_rfl) (by kernel_rfl) (fun _ _ _ h => h) (Or.inl ⟨by rfl, fun w9 hS => ?_⟩) hHeld ?_
                    · obtain ⟨s0, s1⟩ := hS
                      go_simp
                    try simp only [Act.put, List.setIfInBounds_toArray, List.set_cons_zero, List.set_cons_succ, List.getElem_toArray, List.getElem_cons_succ, List.getElem_cons_zero]
                    refine wpAnyH_take (i := 6) (oi := _) (v := .int .i64 j) rfl (by kernel_rfl) (by kernel_rfl) (by kernel_rfl) (fun _ _ _ h => h) (Or.inl ⟨by rfl, fun w9 hS => ?_⟩) hHeld ?_
                    · obtain ⟨s0, s1⟩ := hS
                      go_simp
                    try simp only [Act.put, List.setIfInBounds_toArray, List.set_cons_zero, List.set_cons_succ, List.getElem_toArray, List.getElem_cons_succ, List.getElem_cons_zero]
                    refine wpAnyH_take (i := 7) (oi := _) (v := .pointer (some ⟨bl, ol + j, none⟩)) rfl (by kernel_rfl) (by kernel_rfl) (by kernel_rfl) (fun _ _ _ h => h) (Or.inl ⟨by rfl, fun w9 hS => ?_⟩) hHeld ?_
                    · obtain ⟨s0, s1⟩ := hS
                      go_simp
                    try simp only [Act.put, List.setIfInBounds_toArray, List.set_cons_zero, List.set_cons_succ, List.getElem_toArray, List.getElem_cons_succ, List.getElem_cons_zero]
                    refine wpAnyH_take (i := 8) (oi := _) (v := .string oo) rfl (by kernel_rfl) (by kernel_rfl) (by kernel_rfl) (fun _ _ _ h => h) (Or.inl ⟨by rfl, fun w9 hS => ?_⟩) hHeld ?_
                    · obtain ⟨s0, s1⟩ := hS
                      go_simp
                    try simp only [Act.put, List.setIfInBounds_toArray, List.set_cons_zero, List.set_cons_succ, List.getElem_toArray, List.getElem_cons_succ, List.getElem_cons_zero]
                    refine wpAnyH_take (i := 9) (oi := _) (v := .slice (some ⟨bl, ol, none⟩) ys.length c5) rfl (by kernel_rfl) (by kernel_rfl) (by kernel_rfl) (fun _ _ _ h => h) (Or.inl ⟨by rfl, fun w9 hS => ?_⟩) hHeld ?_
                    · obtain ⟨s0, s1⟩ := hS
                      go_simp
                    try simp only [Act.put, List.setIfInBounds_toArray, List.set_cons_zero, List.set_cons_succ, List.getElem_toArray, List.getElem_cons_succ, List.getElem_cons_zero]
                    refine wpAnyH_take (i := 10) (oi := _) (v := .int .i64 i) rfl (by kernel_rfl) (by kernel_rfl) (by kernel_rfl) (fun _ _ _ h => h) (Or.inl ⟨by rfl, fun w9 hS => ?_⟩) hHeld ?_
                    · obtain ⟨s0, s1⟩ := hS
                      go_simp
                    try simp only [Act.put, List.setIfInBounds_toArray, List.set_cons_zero, List.set_cons_succ, List.getElem_toArray, List.getElem_cons_succ, List.getElem_cons_zero]
                    refine wpAnyH_take (i := 11) (oi := _) (v := .pointer (some ⟨bl, ol + i, none⟩)) rfl (by kernel_rfl) (by kernel_rfl) (by kernel_rfl) (fun _ _ _ h => h) (Or.inl ⟨by rfl, fun w9 hS => ?_⟩) hHeld ?_
                    · obtain ⟨s0, s1⟩ := hS
                      go_simp
                    try simp only [Act.put, List.setIfInBounds_toArray, List.set_cons_zero, List.set_cons_succ, List.getElem_toArray, List.getElem_cons_succ, List.getElem_cons_zero]
                    refine wpAnyH_take (i := 12) (oi := _) (v := .string x) rfl (by kernel_rfl) (by kernel_rfl) (by kernel_rfl) (fun _ _ _ h => h) (Or.inl ⟨by rfl, fun w9 hS => ?_⟩) hHeld ?_
                    · obtain ⟨s0, s1⟩ := hS
                      go_simp
                    try simp only [Act.put, List.setIfInBounds_toArray, List.set_cons_zero, List.set_cons_succ, List.getElem_toArray, List.getElem_cons_succ, List.getElem_cons_zero]
                    refine wpAnyH_ready (rs := [13]) (by kernel_rfl) (by simp) (AllReadyH.cons (o := _) rfl (fun K hK => ?_) AllReadyH.nil)
                    go_simp
                    refine (HC1.out _ (h.below (hb03.next (hbw.next hbd)))).mono ?_
                    rintro e z1 ⟨v1, rfl, hv1, hz1⟩
                    obtain rfl : v1 = true := hv1.2 hr1
                    clear hv1
                    have hbz := hbd.next hz1
                    refine hK.out _ _ (HSS.out _ hbz) (fun hHeld => ?_)
                    clear hK K
                    try simp only [Act.put, List.setIfInBounds_toArray, List.set_cons_zero, List.set_cons_succ, List.getElem_toArray, List.getElem_cons_succ, List.getElem_cons_zero]
                    refine wpAnyH_take (i := 14) (oi := _) (v := .bool true) rfl (by kernel_rfl) (by kernel_rfl) (by kernel_rfl) (fun _ _ _ h => h) (Or.inl ⟨by rfl, fun w9 hS => ?_⟩) hHeld ?_
                    · obtain ⟨s0, s1⟩ := hS
                      go_simp
                    try simp only [Act.put, List.setIfInBounds_toArray, List.set_cons_zero, List.set_cons_succ, List.getElem_toArray, List.getElem_cons_succ, List.getElem_cons_zero]
                    refine wpAnyH_take (i := 15) (oi := _) (v := .bool true) rfl (by kernel_rfl) (by kernel_rfl) (by kernel_rfl) (fun _ _ _ h => h) (Or.inl ⟨by rfl, fun w9 hS => ?_⟩) hHeld ?_
                    · obtain ⟨s0, s1⟩ := hS
                      go_simp
                    try simp only [Act.put, List.setIfInBounds_toArray, List.set_cons_zero, List.set_cons_succ, List.getElem_toArray, List.getElem_cons_succ, List.getElem_cons_zero]
                    refine wpAnyH_take (i := 16) (oi := _) (v := .slice A l.length c) rfl (by kernel_rfl) (by kernel_rfl) (by kernel_rfl) (fun _ _ _ h => h) (Or.inl ⟨by rfl, fun w9 hS => ?_⟩) hHeld ?_
                    · obtain ⟨s0, s1⟩ := hS
                      go_simp
                    try simp only [Act.put, List.setIfInBounds_toArray, List.set_cons_zero, List.set_cons_succ, List.getElem_toArray, List.getElem_cons_succ, List.getElem_cons_zero]
                    refine wpAnyH_take (i := 17) (oi := _) (v := .slice (some ⟨bl, ol, none⟩) ys.length c5) rfl (by kernel_rfl) (by kernel_rfl) (by kernel_rfl) (fun _ _ _ h => h) (Or.inl ⟨by rfl, fun w9 hS => ?_⟩) hHeld ?_
                    · obtain ⟨s0, s1⟩ := hS
                      go_simp
                    try simp only [Act.put, List.setIfInBounds_toArray, List.set_cons_zero, List.set_cons_succ, List.getElem_toArray, List.getElem_cons_succ, List.getElem_cons_zero]
                    refine wpAnyH_take (i := 18) (oi := _) (v := .int .i64 i) rfl (by kernel_rfl) (by kernel_rfl) (by kernel_rfl) (fun _ _ _ h => h) (Or.inl ⟨by rfl, fun w9 hS => ?_⟩) hHeld ?_
                    · obtain ⟨s0, s1⟩ := hS
                      go_simp
                    try simp only [Act.put, List.setIfInBounds_toArray, List.set_cons_zero, List.set_cons_succ, List.getElem_toArray, List.getElem_cons_succ, List.getElem_cons_zero]
                    refine wpAnyH_take (i := 19) (oi := _) (v := .pointer (some ⟨bl, ol + i, none⟩)) rfl (by kernel_rfl) (by kernel_rfl) (by kernel_rfl) (fun _ _ _ h => h) (Or.inl ⟨by rfl, fun w9 hS => ?_⟩) hHeld ?_
                    · obtain ⟨s0, s1⟩ := hS
                      go_simp
                    try simp only [Act.put, List.setIfInBounds_toArray, List.set_cons_zero, List.set_cons_succ, List.getElem_toArray, List.getElem_cons_succ, List.getElem_cons_zero]
                    refine wpAnyH_take (i := 20) (oi := _) (v := .string x) rfl (by kernel_rfl) (by kernel_rfl) (by kernel_rfl) (fun _ _ _ h => h) (Or.inl ⟨by rfl, fun w9 hS => ?_⟩) hHeld ?_
                    · obtain ⟨s0, s1⟩ := hS
                      go_simp
                    try simp only [Act.put, List.setIfInBounds_toArray, List.set_cons_zero, List.set_cons_succ, List.getElem_toArray, List.getElem_cons_succ, List.getElem_cons_zero]
                    refine wpAnyH_take (i := 21) (oi := _) (v := .slice (some ⟨bl, ol, none⟩) ys.length c5) rfl (by kernel_rfl) (by kernel_rfl) (by kernel_rfl) (fun _ _ _ h => h) (Or.inl ⟨by rfl, fun w9 hS => ?_⟩) hHeld ?_
                    · obtain ⟨s0, s1⟩ := hS
                      go_simp
                    try simp only [Act.put, List.setIfInBounds_toArray, List.set_cons_zero, List.set_cons_succ, List.getElem_toArray, List.getElem_cons_succ, List.getElem_cons_zero]
                    refine wpAnyH_take (i := 22) (oi := _) (v := .int .i64 j) rfl (by kernel_rfl) (by kernel_rfl) (by kernel_rfl) (fun _ _ _ h => h) (Or.inl ⟨by rfl, fun w9 hS => ?_⟩) hHeld ?_
                    · obtain ⟨s0, s1⟩ := hS
                      go_simp
                    try simp only [Act.put, List.setIfInBounds_toArray, List.set_cons_zero, List.set_cons_succ, List.getElem_toArray, List.getElem_cons_succ, List.getElem_cons_zero]
                    refine wpAnyH_take (i := 23) (oi := _) (v := .pointer (some ⟨bl, ol + j, none⟩)) rfl (by kernel_rfl) (by kernel_rfl) (by kernel_rfl) (fun _ _ _ h => h) (Or.inl ⟨by rfl, fun w9 hS => ?_⟩) hHeld ?_
                    · obtain ⟨s0, s1⟩ := hS
                      go_simp
                    try simp only [Act.put, List.setIfInBounds_toArray, List.set_cons_zero, List.set_cons_succ, List.getElem_toArray, List.getElem_cons_succ, List.getElem_cons_zero]
                    refine wpAnyH_take (i := 24) (oi := _) (v := .string oo) rfl (by kernel_rfl) (by kernel_rfl) (by kernel_rfl) (fun _ _ _ h => h) (Or.inl ⟨by rfl, fun w9 hS => ?_⟩) hHeld ?_
                    · obtain ⟨s0, s1⟩ := hS
                      go_simp
                    try simp only [Act.put, List.setIfInBounds_toArray, List.set_cons_zero, List.set_cons_succ, List.getElem_toArray, List.getElem_cons_succ, List.getElem_cons_zero]
                    refine wpAnyH_ready (rs := [25]) (by kernel_rfl) (by simp) (AllReadyH.cons (o := _) rfl (fun K hK => ?_) AllReadyH.nil)
                    go_simp
                    refine (HC2.out _ (h.below (hb03.next (hbw.next hbz)))).mono ?_
                    rintro e z2 ⟨v2, rfl, hv2, hz2⟩
                    obtain rfl : v2 = true := hv2.2 hr2
                    clear hv2
                    have hby := hbz.next hz2
                    refine hK.out _ _ (HSS.out _ hby) (fun hHeld => ?_)
                    clear hK K
                    try simp only [Act.put, List.setIfInBounds_toArray, List.set_cons_zero, List.set_cons_succ, List.getElem_toArray, List.getElem_cons_succ, List.getElem_cons_zero]
                    refine wpAnyH_take (i := 26) (oi := _) (v := .bool false) rfl (by kernel_rfl) (by kernel_rfl) (by kernel_rfl) (fun _ _ _ h => h) (Or.inl ⟨by rfl, fun w9 hS => ?_⟩) hHeld ?_
                    · obtain ⟨s0, s1⟩ := hS
                      go_simp
                    try simp only [Act.put, List.setIfInBounds_toArray, List.set_cons_zero, List.set_cons_succ, List.getElem_toArray, List.getElem_cons_succ, List.getElem_cons_zero]
                    refine wpAnyH_take (i := 27) (oi := _) (v := .bool false) rfl (by kernel_rfl) (by kernel_rfl) (by kernel_rfl) (fun _ _ _ h => h) (Or.inl ⟨by rfl, fun w9 hS => ?_⟩) hHeld ?_
                    · obtain ⟨s0, s1⟩ := hS
                      go_simp
                    try simp only [Act.put, List.setIfInBounds_toArray, List.set_cons_zero, List.set_cons_succ, List.getElem_toArray, List.getElem_cons_succ, List.getElem_cons_zero]
                    refine wpAnyH_done (by kernel_rfl) ?_ _
                    go_wp2_with fail
                    exact ⟨⟨j + 1, u, rfl, by go_num, by omega, ⟨fun hu => HU.out.1 ⟨hu, HG.out⟩, fun hx => (HU.out.2 hx).1⟩, hby⟩, by simp [intOf]; omega⟩
                  · have HG : Hid ((Rch (l.map NdA.f) [oo] x ∧ ¬ Rch (l.map NdA.f) [x] oo)) := ⟨hr1, hr2⟩
                    refine wp_region_held_drew (S := fun W => W.cell? ⟨bl, ol + j, none⟩ = some (.string oo) ∧ W.cell? ⟨bl, ol + i, none⟩ = some (.string x)) (by kernel_rfl) (HSS.out _ hbd) (fun hHeld => ?_)
                    refine wpAnyH_take (i := 0) (oi := _) (v := .int .i64 j) rfl (by kernel_rfl) (by kernel_rfl) (by kernel_rfl) (fun _ _ _ h => h) (Or.inl ⟨by rfl, fun w9 hS => ?_⟩) hHeld ?_
                    · obtain ⟨s0, s1⟩ := hS
                      go_simp
                    try simp only [Act.put, List.setIfInBounds_toArray, List.set_cons_zero, List.set_cons_succ, List.getElem_toArray, List.getElem_cons_zero]
                    refine wpAnyH_take (i := 1) (oi := _) (v := .int .i64 i) rfl (by kernel_rfl) (by kernel_rfl) (by kernel_rfl) (fun _ _ _ h => h) (Or.inl ⟨by rfl, fun w9 hS => ?_⟩) hHeld ?_
                    · obtain ⟨s0, s1⟩ := hS
                      go_simp
                    try simp only [Act.put, List.setIfInBounds_toArray, List.set_cons_zero, List.set_cons_succ, List.getElem_toArray, List.getElem_cons_succ, List.getElem_cons_zero]
                    refine wpAnyH_take (i := 2) (oi := _) (v := .bool true) rfl (by kernel_rfl) (by kernel_rfl) (by kernel_rfl) (fun _ _ _ h => h) (Or.inl ⟨by rfl, fun w9 hS => ?_⟩) hHeld ?_
                    · obtain ⟨s0, s1⟩ := hS
                      go_simp
                    try simp only [Act.put, List.setIfInBounds_toArray, List.set_cons_zero, List.set_cons_succ, List.getElem_toArray, List.getElem_cons_succ, List.getElem_cons_zero]
                    refine wpAnyH_take (i := 3) (oi := _) (v := .bool true) rfl (by kernel_rfl) (by kernel_rfl) (by kernel_rfl) (fun _ _ _ h => h) (Or.inl ⟨by rfl, fun w9 hS => ?_⟩) hHeld ?_
                    · obtain ⟨s0, s1⟩ := hS
                      go_simp
                    try simp only [Act.put, List.setIfInBounds_toArray, List.set_cons_zero, List.set_cons_succ, List.getElem_toArray, List.getElem_cons_succ, List.getElem_cons_zero]
                    refine wpAnyH_take (i := 4) (oi := _) (v := .slice A l.length c) rfl (by kernel_rfl) (by kernel_rfl) (by kernel_rfl) (fun _ _ _ h => h) (Or.inl ⟨by rfl, fun w9 hS => ?_⟩) hHeld ?_
                    · obtain ⟨s0, s1⟩ := hS
                      go_simp
                    try simp only [Act.put, List.setIfInBounds_toArray, List.set_cons_zero, List.set_cons_succ, List.getElem_toArray, List.getElem_cons_succ, List.getElem_cons_zero]
                    refine wpAnyH_take (i := 5) (oi := _) (v := .slice (some ⟨bl, ol, none⟩) ys.length c5) rfl (by kernel_rfl) (by kernel_rfl) (by kernel_rfl) (fun _ _ _ h => h) (Or.inl ⟨by rfl, fun w9 hS => ?_⟩) hHeld ?_
                    · obtain ⟨s0, s1⟩ := hS
                      go_simp
                    try simp only [Act.put, List.setIfInBounds_toArray, List.set_cons_zero, List.set_cons_succ, List.getElem_toArray, List.getElem_cons_succ, List.getElem_cons_zero]
                    refine wpAnyH_take (i := 6) (oi := _) (v := .int .i64 j) rfl (by kernel_rfl) (by kernel_rfl) (by kernel_rfl) (fun _ _ _ h => h) (Or.inl ⟨by rfl, fun w9 hS => ?_⟩) hHeld ?_
                    · obtain ⟨s0, s1⟩ := hS
                      go_simp
                    try simp only [Act.put, List.setIfInBounds_toArray, List.set_cons_zero, List.set_cons_succ, List.getElem_toArray, List.getElem_cons_succ, List.getElem_cons_zero]
                    refine wpAnyH_take (i := 7) (oi := _) (v := .pointer (some ⟨bl, ol + j, none⟩)) rfl (by kernel_rfl) (by kernel_rfl) (by kernel_rfl) (fun _ _ _ h => h) (Or.inl ⟨by rfl, fun w9 hS => ?_⟩) hHeld ?_
                    · obtain ⟨s0, s1⟩ := hS
                      go_simp
                    try simp only [Act.put, List.setIfInBounds_toArray, List.set_cons_zero, List.set_cons_succ, List.getElem_toArray, List.getElem_cons_succ, List.getElem_cons_zero]
                    refine wpAnyH_take (i := 8) (oi := _) (v := .string oo) rfl (by kernel_rfl) (by kernel_rfl) (by kernel_rfl) (fun _ _ _ h => h) (Or.inl ⟨by rfl, fun w9 hS => ?_⟩) hHeld ?_
                    · obtain ⟨s0, s1⟩ := hS
                      go_simp
                    try simp only [Act.put, List.setIfInBounds_toArray, List.set_cons_zero, List.set_cons_succ, List.getElem_toArray, List.getElem_cons_succ, List.getElem_cons_zero]
                    refine wpAnyH_take (i := 9) (oi := _) (v := .slice (some ⟨bl, ol, none⟩) ys.length c5) rfl (by kernel_rfl) (by kernel_rfl) (by kernel_rfl) (fun _ _ _ h => h) (Or.inl ⟨by rfl, fun w9 hS => ?_⟩) hHeld ?_
                    · obtain ⟨s0, s1⟩ := hS
                      go_simp
                    try simp only [Act.put, List.setIfInBounds_toArray, List.set_cons_zero, List.set_cons_succ, List.getElem_toArray, List.getElem_cons_succ, List.getElem_cons_zero]
                    refine wpAnyH_take (i := 10) (oi := _) (v := .int .i64 i) rfl (by kernel_rfl) (by kernel_rfl) (by kernel_rfl) (fun _ _ _ h => h) (Or.inl ⟨by rfl, fun w9 hS => ?_⟩) hHeld ?_
                    · obtain ⟨s0, s1⟩ := hS
                      go_simp
                    try simp only [Act.put, List.setIfInBounds_toArray, List.set_cons_zero, List.set_cons_succ, List.getElem_toArray, List.getElem_cons_succ, List.getElem_cons_zero]
                    refine wpAnyH_take (i := 11) (oi := _) (v := .pointer (some ⟨bl, ol + i, none⟩)) rfl (by kernel_rfl) (by kernel_rfl) (by kernel_rfl) (fun _ _ _ h => h) (Or.inl ⟨by rfl, fun w9 hS => ?_⟩) hHeld ?_
                    · obtain ⟨s0, s1⟩ := hS
                      go_simp
                    try simp only [Act.put, List.setIfInBounds_toArray, List.set_cons_zero, List.set_cons_succ, List.getElem_toArray, List.getElem_cons_succ, List.getElem_cons_zero]
                    refine wpAnyH_take (i := 12) (oi := _) (v := .string x) rfl (by kernel_rfl) (by kernel_rfl) (by kernel_rfl) (fun _ _ _ h => h) (Or.inl ⟨by rfl, fun w9 hS => ?_⟩) hHeld ?_
                    · obtain ⟨s0, s1⟩ := hS
                      go_simp
                    try simp only [Act.put, List.setIfInBounds_toArray, List.set_cons_zero, List.set_cons_succ, List.getElem_toArray, List.getElem_cons_succ, List.getElem_cons_zero]
                    refine wpAnyH_ready (rs := [13]) (by kernel_rfl) (by simp) (AllReadyH.cons (o := _) rfl (fun K hK => ?_) AllReadyH.nil)
                    go_simp
                    refine (HC1.out _ (h.below (hb03.next (hbw.next hbd)))).mono ?_
                    rintro e z1 ⟨v1, rfl, hv1, hz1⟩
                    obtain rfl : v1 = true := hv1.2 hr1
                    clear hv1
                    have hbz := hbd.next hz1
                    refine hK.out _ _ (HSS.out _ hbz) (fun hHeld => ?_)
                    clear hK K
                    try simp only [Act.put, List.setIfInBounds_toArray, List.set_cons_zero, List.set_cons_succ, List.getElem_toArray, List.getElem_cons_succ, List.getElem_cons_zero]
                    refine wpAnyH_take (i := 14) (oi := _) (v := .bool true) rfl (by kernel_rfl) (by kernel_rfl) (by kernel_rfl) (fun _ _ _ h => h) (Or.inl ⟨by rfl, fun w9 hS => ?_⟩) hHeld ?_
                    · obtain ⟨s0, s1⟩ := hS
                      go_simp
                    try simp only [Act.put, List.setIfInBounds_toArray, List.set_cons_zero, List.set_cons_succ, List.getElem_toArray, List.getElem_cons_succ, List.getElem_cons_zero]
                    refine wpAnyH_take (i := 15) (oi := _) (v := .bool true) rfl (by kernel_rfl) (by kernel_rfl) (by kernel_rfl) (fun _ _ _ h => h) (Or.inl ⟨by rfl, fun w9 hS => ?_⟩) hHeld ?_
                    · obtain ⟨s0, s1⟩ := hS
                      go_simp
                    try simp only [Act.put, List.setIfInBounds_toArray, List.set_cons_zero, List.set_cons_succ, List.getElem_toArray, List.getElem_cons_succ, List.getElem_cons_zero]
                    refine wpAnyH_take (i := 16) (oi := _) (v := .slice A l.length c) rfl (by kernel_rfl) (by kernel_rfl) (by kernel_rfl) (fun _ _ _ h => h) (Or.inl ⟨by rfl, fun w9 hS => ?_⟩) hHeld ?_
                    · obtain ⟨s0, s1⟩ := hS
                      go_simp
                    try simp only [Act.put, List.setIfInBounds_toArray, List.set_cons_zero, List.set_cons_succ, List.getElem_toArray, List.getElem_cons_succ, List.getElem_cons_zero]
                    refine wpAnyH_take (i := 17) (oi := _) (v := .slice (some ⟨bl, ol, none⟩) ys.length c5) rfl (by kernel_rfl) (by kernel_rfl) (by kernel_rfl) (fun _ _ _ h => h) (Or.inl ⟨by rfl, fun w9 hS => ?_⟩) hHeld ?_
                    · obtain ⟨s0, s1⟩ := hS
                      go_simp
                    try simp only [Act.put, List.setIfInBounds_toArray, List.set_cons_zero, List.set_cons_succ, List.getElem_toArray, List.getElem_cons_succ, List.getElem_cons_zero]
                    refine wpAnyH_take (i := 18) (oi := _) (v := .int .i64 i) rfl (by kernel_rfl) (by kernel_rfl) (by kernel_rfl) (fun _ _ _ h => h) (Or.inl ⟨by rfl, fun w9 hS => ?_⟩) hHeld ?_
                    · obtain ⟨s0, s1⟩ := hS
                      go_simp
                    try simp only [Act.put, List.setIfInBounds_toArray, List.set_cons_zero, List.set_cons_succ, List.getElem_toArray, List.getElem_cons_succ, List.getElem_cons_zero]
                    refine wpAnyH_take (i := 19) (oi := _) (v := .pointer (some ⟨bl, ol + i, none⟩)) rfl (by kernel_rfl) (by kernel_rfl) (by kernel_rfl) (fun _ _ _ h => h) (Or.inl ⟨by rfl, fun w9 hS => ?_⟩) hHeld ?_
                    · obtain ⟨s0, s1⟩ := hS
                      go_simp
                    try simp only [Act.put, List.setIfInBounds_toArray, List.set_cons_zero, List.set_cons_succ, List.getElem_toArray, List.getElem_cons_succ, List.getElem_cons_zero]
                    refine wpAnyH_take (i := 20) (oi := _) (v := .string x) rfl (by kernel_rfl) (by kernel_rfl) (by kernel_rfl) (fun _ _ _ h => h) (Or.inl ⟨by rfl, fun w9 hS => ?_⟩) hHeld ?_
                    · obtain ⟨s0, s1⟩ := hS
                      go_simp
                    try simp only [Act.put, List.setIfInBounds_toArray, List.set_cons_zero, List.set_cons_succ, List.getElem_toArray, List.getElem_cons_succ, List.getElem_cons_zero]
                    refine wpAnyH_take (i := 21) (oi := _) (v := .slice (some ⟨bl, ol, none⟩) ys.length c5) rfl (by kernel_rfl) (by kernel_rfl) (by kernel_rfl) (fun _ _ _ h => h) (Or.inl ⟨by rfl, fun w9 hS => ?_⟩) hHeld ?_
                    · obtain ⟨s0, s1⟩ := hS
                      go_simp
                    try simp only [Act.put, List.setIfInBounds_toArray, List.set_cons_zero, List.set_cons_succ, List.getElem_toArray, List.getElem_cons_succ, List.getElem_cons_zero]
                    refine wpAnyH_take (i := 22) (oi := _) (v := .int .i64 j) rfl (by kernel_rfl) (by kernel_rfl) (by kernel_rfl) (fun _ _ _ h => h) (Or.inl ⟨by rfl, fun w9 hS => ?_⟩) hHeld ?_
                    · obtain ⟨s0, s1⟩ := hS
                      go_simp
                    try simp only [Act.put, List.setIfInBounds_toArray, List.set_cons_zero, List.set_cons_succ, List.getElem_toArray, List.getElem_cons_succ, List.getElem_cons_zero]
                    refine wpAnyH_take (i := 23) (oi := _) (v := .pointer (some ⟨bl, ol + j, none⟩)) rfl (by kernel_rfl) (by kernel_rfl) (by kernel_rfl) (fun _ _ _ h => h) (Or.inl ⟨by rfl, fun w9 hS => ?_⟩) hHeld ?_
                    · obtain ⟨s0, s1⟩ := hS
                      go_simp
                    try simp only [Act.put, List.setIfInBounds_toArray, List.set_cons_zero, List.set_cons_succ, List.getElem_toArray, List.getElem_cons_succ, List.getElem_cons_zero]
                    refine wpAnyH_take (i := 24) (oi := _) (v := .string oo) rfl (by kernel_rfl) (by kernel_rfl) (by kernel_rfl) (fun _ _ _ h => h) (Or.inl ⟨by rfl, fun w9 hS => ?_⟩) hHeld ?_
                    · obtain ⟨s0, s1⟩ := hS
                      go_simp
                    try simp only [Act.put, List.setIfInBounds_toArray, List.set_cons_zero, List.set_cons_succ, List.getElem_toArray, List.getElem_cons_succ, List.getElem_cons_zero]
                    refine wpAnyH_ready (rs := [25]) (by kernel_rfl) (by simp) (AllReadyH.cons (o := _) rfl (fun K hK => ?_) AllReadyH.nil)
                    go_simp
                    refine (HC2.out _ (h.below (hb03.next (hbw.next hbz)))).mono ?_
                    rintro e z2 ⟨v2, rfl, hv2, hz2⟩
                    obtain rfl : v2 = false := by cases v2 with | false => rfl | true => exact absurd (hv2.1 rfl) hr2
                    clear hv2
                    have hby := hbz.next hz2
                    refine hK.out _ _ (HSS.out _ hby) (fun hHeld => ?_)
                    clear hK K
                    try simp only [Act.put, List.setIfInBounds_toArray, List.set_cons_zero, List.set_cons_succ, List.getElem_toArray, List.getElem_cons_succ, List.getElem_cons_zero]
                    refine wpAnyH_take (i := 26) (oi := _) (v := .bool true) rfl (by kernel_rfl) (by kernel_rfl) (by kernel_rfl) (fun _ _ _ h => h) (Or.inl ⟨by rfl, fun w9 hS => ?_⟩) hHeld ?_
                    · obtain ⟨s0, s1⟩ := hS
                      go_simp
                    try simp only [Act.put, List.setIfInBounds_toArray, List.set_cons_zero, List.set_cons_succ, List.getElem_toArray, List.getElem_cons_succ, List.getElem_cons_zero]
                    refine wpAnyH_take (i := 27) (oi := _) (v := .bool true) rfl (by kernel_rfl) (by kernel_rfl) (by kernel_rfl) (fun _ _ _ h => h) (Or.inl ⟨by rfl, fun w9 hS => ?_⟩) hHeld ?_
                    · obtain ⟨s0, s1⟩ := hS
                      go_simp
                    try simp only [Act.put, List.setIfInBounds_toArray, List.set_cons_zero, List.set_cons_succ, List.getElem_toArray, List.getElem_cons_succ, List.getElem_cons_zero]
                    refine wpAnyH_done (by kernel_rfl) ?_ _
                    go_wp2_with fail
                    exact ⟨⟨j + 1, false, rfl, by go_num, by omega, ⟨(fun hu => by cases hu), fun hx => absurd HG.out (HU.out.2 hx).2⟩, hby⟩, by simp [intOf]; omega⟩
                · have HG : Hid (¬ (Rch (l.map NdA.f) [oo] x ∧ ¬ Rch (l.map NdA.f) [x] oo)) := fun hg => hr1 hg.1
                  refine wp_region_held_drew (S := fun W => W.cell? ⟨bl, ol + j, none⟩ = some (.string oo) ∧ W.cell? ⟨bl, ol + i, none⟩ = some (.string x)) (by kernel_rfl) (HSS.out _ hbd) (fun hHeld => ?_)
                  refine wpAnyH_take (i := 0) (oi := _) (v := .int .i64 j) rfl (by kernel_rfl) (by kernel_rfl) (by kernel_rfl) (fun _ _ _ h => h) (Or.inl ⟨by rfl, fun w9 hS => ?_⟩) hHeld ?_
                  · obtain ⟨s0, s1⟩ := hS
                    go_simp
                  try simp only [Act.put, List.setIfInBounds_toArray, List.set_cons_zero, List.set_cons_succ, List.getElem_toArray, List.getElem_cons_zero]
                  refine wpAnyH_take (i := 1) (oi := _) (v := .int .i64 i) rfl (by kernel_rfl) (by kernel_rfl) (by kernel_rfl) (fun _ _ _ h => h) (Or.inl ⟨by rfl, fun w9 hS => ?_⟩) hHeld ?_
                  · obtain ⟨s0, s1⟩ := hS
                    go_simp
                  try simp only [Act.put, List.setIfInBounds_toArray, List.set_cons_zero, List.set_cons_succ, List.getElem_toArray, List.getElem_cons_succ, List.getElem_cons_zero]
                  refine wpAnyH_take (i := 2) (oi := _) (v := .bool true) rfl (by kernel_rfl) (by kernel_rfl) (by kernel_rfl) (fun _ _ _ h => h) (Or.inl ⟨by rfl, fun w9 hS => ?_⟩) hHeld ?_
                  · obtain ⟨s0, s1⟩ := hS
                    go_simp
                  try simp only [Act.put, List.setIfInBounds_toArray, List.set_cons_zero, List.set_cons_succ, List.getElem_toArray, List.getElem_cons_succ, List.getElem_cons_zero]
                  refine wpAnyH_take (i := 3) (oi := _) (v := .bool true) rfl (by kernel_rfl) (by kernel_rfl) (by kernel_rfl) (fun _ _ _ h => h) (Or.inl ⟨by rfl, fun w9 hS => ?_⟩) hHeld ?_
                  · obtain ⟨s0, s1⟩ := hS
                    go_simp
                  try simp only [Act.put, List.setIfInBounds_toArray, List.set_cons_zero, List.set_cons_succ, List.getElem_toArray, List.getElem_cons_succ, List.getElem_cons_zero]
                  refine wpAnyH_take (i := 4) (oi := _) (v := .slice A l.length c) rfl (by kernel_rfl) (by kernel_rfl) (by kernel_rfl) (fun _ _ _ h => h) (Or.inl ⟨by rfl, fun w9 hS => ?_⟩) hHeld ?_
                  · obtain ⟨s0, s1⟩ := hS
                    go_simp
                  try simp only [Act.put, List.setIfInBounds_toArray, List.set_cons_zero, List.set_cons_succ, List.getElem_toArray, List.getElem_cons_succ, List.getElem_cons_zero]
                  refine wpAnyH_take (i := 5) (oi := _) (v := .slice (some ⟨bl, ol, none⟩) ys.length c5) rfl (by kernel_rfl) (by kernel_rfl) (by kernel_rfl) (fun _ _ _ h => h) (Or.inl ⟨by rfl, fun w9 hS => ?_⟩) hHeld ?_
                  · obtain ⟨s0, s1⟩ := hS
                    go_simp
                  try simp only [Act.put, List.setIfInBounds_toArray, List.set_cons_zero, List.set_cons_succ, List.getElem_toArray, List.getElem_cons_succ, List.getElem_cons_zero]
                  refine wpAnyH_take (i := 6) (oi := _) (v := .int .i64 j) rfl (by kernel_rfl) (by kernel_rfl) (by kernel_rfl) (fun _ _ _ h => h) (Or.inl ⟨by rfl, fun w9 hS => ?_⟩) hHeld ?_
                  · obtain ⟨s0, s1⟩ := hS
                    go_simp
                  try simp only [Act.put, List.setIfInBounds_toArray, List.set_cons_zero, List.set_cons_succ, List.getElem_toArray, List.getElem_cons_succ, List.getElem_cons_zero]
                  refine wpAnyH_take (i := 7) (oi := _) (v := .pointer (some ⟨bl, ol + j, none⟩)) rfl (by kernel_rfl) (by kernel_rfl) (by kernel_rfl) (fun _ _ _ h => h) (Or.inl ⟨by rfl, fun w9 hS => ?_⟩) hHeld ?_
                  · obtain ⟨s0, s1⟩ := hS
                    go_simp
                  try simp only [Act.put, List.setIfInBounds_toArray, List.set_cons_zero, List.set_cons_succ, List.getElem_toArray, List.getElem_cons_succ, List.getElem_cons_zero]
                  refine wpAnyH_take (i := 8) (oi := _) (v := .string oo) rfl (by kernel_rfl) (by kernel_rfl) (by kernel_rfl) (fun _ _ _ h => h) (Or.inl ⟨by rfl, fun w9 hS => ?_⟩) hHeld ?_
                  · obtain ⟨s0, s1⟩ := hS
                    go_simp
                  try simp only [Act.put, List.setIfInBounds_toArray, List.set_cons_zero, List.set_cons_succ, List.getElem_toArray, List.getElem_cons_succ, List.getElem_cons_zero]
                  refine wpAnyH_take (i := 9) (oi := _) (v := .slice (some ⟨bl, ol, none⟩) ys.length c5) rfl (by kernel_rfl) (by kernel_rfl) (by kernel_rfl) (fun _ _ _ h => h) (Or.inl ⟨by rfl, fun w9 hS => ?_⟩) hHeld ?_
                  · obtain ⟨s0, s1⟩ := hS
                    go_simp
                  try simp only [Act.put, List.setIfInBounds_toArray, List.set_cons_zero, List.set_cons_succ, List.getElem_toArray, List.getElem_cons_succ, List.getElem_cons_zero]
                  refine wpAnyH_take (i := 10) (oi := _) (v := .int .i64 i) rfl (by kernel_rfl) (by kernel_rfl) (by kernel_rfl) (fun _ _ _ h => h) (Or.inl ⟨by rfl, fun w9 hS => ?_⟩) hHeld ?_
                  · obtain ⟨s0, s1⟩ := hS
                    go_simp
                  try simp only [Act.put, List.setIfInBounds_toArray, List.set_cons_zero, List.set_cons_succ, List.getElem_toArray, List.getElem_cons_succ, List.getElem_cons_zero]
                  refine wpAnyH_take (i := 11) (oi := _) (v := .pointer (some ⟨bl, ol + i, none⟩)) rfl (by kernel_rfl) (by kernel_rfl) (by kernel_rfl) (fun _ _ _ h => h) (Or.inl ⟨by rfl, fun w9 hS => ?_⟩) hHeld ?_
                  · obtain ⟨s0, s1⟩ := hS
                    go_simp
                  try simp only [Act.put, List.setIfInBounds_toArray, List.set_cons_zero, List.set_cons_succ, List.getElem_toArray, List.getElem_cons_succ, List.getElem_cons_zero]
                  refine wpAnyH_take (i := 12) (oi := _) (v := .string x) rfl (by kernel_rfl) (by kernel_rfl) (by kernel_rfl) (fun _ _ _ h => h) (Or.inl ⟨by rfl, fun w9 hS => ?_⟩) hHeld ?_
                  · obtain ⟨s0, s1⟩ := hS
                    go_simp
                  try simp only [Act.put, List.setIfInBounds_toArray, List.set_cons_zero, List.set_cons_succ, List.getElem_toArray, List.getElem_cons_succ, List.getElem_cons_zero]
                  refine wpAnyH_ready (rs := [13]) (by kernel_rfl) (by simp) (AllReadyH.cons (o := _) rfl (fun K hK => ?_) AllReadyH.nil)
                  go_simp
                  refine (HC1.out _ (h.below (hb03.next (hbw.next hbd)))).mono ?_
                  rintro e z1 ⟨v1, rfl, hv1, hz1⟩
                  obtain rfl : v1 = false := by cases v1 with | false => rfl | true => exact absurd (hv1.1 rfl) hr1
                  clear hv1
                  have hbz := hbd.next hz1
                  refine hK.out _ _ (HSS.out _ hbz) (fun hHeld => ?_)
                  clear hK K
                  try simp only [Act.put, List.setIfInBounds_toArray, List.set_cons_zero, List.set_cons_succ, List.getElem_toArray, List.getElem_cons_succ, List.getElem_cons_zero]
                  refine wpAnyH_take (i := 14) (oi := _) (v := .bool false) rfl (by kernel_rfl) (by kernel_rfl) (by kernel_rfl) (fun _ _ _ h => h) (Or.inl ⟨by rfl, fun w9 hS => ?_⟩) hHeld ?_
                  · obtain ⟨s0, s1⟩ := hS
                    go_simp
                  try simp only [Act.put, List.setIfInBounds_toArray, List.set_cons_zero, List.set_cons_succ, List.getElem_toArray, List.getElem_cons_succ, List.getElem_cons_zero]
                  refine wpAnyH_take (i := 15) (oi := _) (v := .bool false) rfl (by kernel_rfl) (by kernel_rfl) (by kernel_rfl) (fun _ _ _ h => h) (Or.inl ⟨by rfl, fun w9 hS => ?_⟩) hHeld ?_
                  · obtain ⟨s0, s1⟩ := hS
                    go_simp
                  try simp only [Act.put, List.setIfInBounds_toArray, List.set_cons_zero, List.set_cons_succ, List.getElem_toArray, List.getElem_cons_succ, List.getElem_cons_zero]
                  refine wpAnyH_take (i := 16) (oi := _) (v := undef) rfl (by kernel_rfl) (by kernel_rfl) (by kernel_rfl) (fun _ _ _ h => h) (Or.inr ⟨by rfl, rfl⟩) hHeld ?_
                  try simp only [Act.put, List.setIfInBounds_toArray, List.set_cons_zero, List.set_cons_succ, List.getElem_toArray, List.getElem_cons_succ, List.getElem_cons_zero]
                  refine wpAnyH_take (i := 17) (oi := _) (v := undef) rfl (by kernel_rfl) (by kernel_rfl) (by kernel_rfl) (fun _ _ _ h => h) (Or.inr ⟨by rfl, rfl⟩) hHeld ?_
                  try simp only [Act.put, List.setIfInBounds_toArray, List.set_cons_zero, List.set_cons_succ, List.getElem_toArray, List.getElem_cons_succ, List.getElem_cons_zero]
                  refine wpAnyH_take (i := 18) (oi := _) (v := undef) rfl (by kernel_rfl) (by kernel_rfl) (by kernel_rfl) (fun _ _ _ h => h) (Or.inr ⟨by rfl, rfl⟩) hHeld ?_
                  try simp only [Act.put, List.setIfInBounds_toArray, List.set_cons_zero, List.set_cons_succ, List.getElem_toArray, List.getElem_cons_succ, List.getElem_cons_zero]
                  refine wpAnyH_take (i := 19) (oi := _) (v := undef) rfl (by kernel_rfl) (by kernel_rfl) (by kernel_rfl) (fun _ _ _ h => h) (Or.inr ⟨by rfl, rfl⟩) hHeld ?_
                  try simp only [Act.put, List.setIfInBounds_toArray, List.set_cons_zero, List.set_cons_succ, List.getElem_toArray, List.getElem_cons_succ, List.getElem_cons_zero]
                  refine wpAnyH_take (i := 20) (oi := _) (v := undef) rfl (by kernel_rfl) (by kernel_rfl) (by kernel_rfl) (fun _ _ _ h => h) (Or.inr ⟨by rfl, rfl⟩) hHeld ?_
                  try simp only [Act.put, List.setIfInBounds_toArray, List.set_cons_zero, List.set_cons_succ, List.getElem_toArray, List.getElem_cons_succ, List.getElem_cons_zero]
                  refine wpAnyH_take (i := 21) (oi := _) (v := undef) rfl (by kernel_rfl) (by kernel_rfl) (by kernel_rfl) (fun _ _ _ h => h) (Or.inr ⟨by rfl, rfl⟩) hHeld ?_
                  try simp only [Act.put, List.setIfInBounds_toArray, List.set_cons_zero, List.set_cons_succ, List.getElem_toArray, List.getElem_cons_succ, List.getElem_cons_zero]
                  refine wpAnyH_take (i := 22) (oi := _) (v := undef) rfl (by kernel_rfl) (by kernel_rfl) (by kernel_rfl) (fun _ _ _ h => h) (Or.inr ⟨by rfl, rfl⟩) hHeld ?_
                  try simp only [Act.put, List.setIfInBounds_toArray, List.set_cons_zero, List.set_cons_succ, List.getElem_toArray, List.getElem_cons_succ, List.getElem_cons_zero]
                  refine wpAnyH_take (i := 23) (oi := _) (v := undef) rfl (by kernel_rfl) (by kernel_rfl) (by kernel_rfl) (fun _ _ _ h => h) (Or.inr ⟨by rfl, rfl⟩) hHeld ?_
                  try simp only [Act.put, List.setIfInBounds_toArray, List.set_cons_zero, List.set_cons_succ, List.getElem_toArray, List.getElem_cons_succ, List.getElem_cons_zero]
                  refine wpAnyH_take (i := 24) (oi := _) (v := undef) rfl (by kernel_rfl) (by kernel_rfl) (by kernel_rfl) (fun _ _ _ h => h) (Or.inr ⟨by rfl, rfl⟩) hHeld ?_
                  try simp only [Act.put, List.setIfInBounds_toArray, List.set_cons_zero, List.set_cons_succ, List.getElem_toArray, List.getElem_cons_succ, List.getElem_cons_zero]
                  refine wpAnyH_take (i := 25) (oi := _) (v := undef) rfl (by kernel_rfl) (by kernel_rfl) (by kernel_rfl) (fun _ _ _ h => h) (Or.inr ⟨by rfl, rfl⟩) hHeld ?_
                  try simp only [Act.put, List.setIfInBounds_toArray, List.set_cons_zero, List.set_cons_succ, List.getElem_toArray, List.getElem_cons_succ, List.getElem_cons_zero]
                  refine wpAnyH_take (i := 26) (oi := _) (v := undef) rfl (by kernel_rfl) (by kernel_rfl) (by kernel_rfl) (fun _ _ _ h => h) (Or.inr ⟨by rfl, rfl⟩) hHeld ?_
                  try simp only [Act.put, List.setIfInBounds_toArray, List.set_cons_zero, List.set_cons_succ, List.getElem_toArray, List.getElem_cons_succ, List.getElem_cons_zero]
                  refine wpAnyH_take (i := 27) (oi := _) (v := .bool false) rfl (by kernel_rfl) (by kernel_rfl) (by kernel_rfl) (fun _ _ _ h => h) (Or.inl ⟨by rfl, fun w9 hS => ?_⟩) hHeld ?_
                  · obtain ⟨s0, s1⟩ := hS
                    go_simp
                  try simp only [Act.put, List.setIfInBounds_toArray, List.set_cons_zero, List.set_cons_succ, List.getElem_toArray, List.getElem_cons_succ, List.getElem_cons_zero]
                  refine wpAnyH_done (by kernel_rfl) ?_ _
                  go_wp2_with fail
                  exact ⟨⟨j + 1, u, rfl, by go_num, by omega, ⟨fun hu => HU.out.1 ⟨hu, HG.out⟩, fun hx => (HU.out.2 hx).1⟩, hbz⟩, by simp [intOf]; omega⟩
            · have hdj : decide ((j : Int) < (ys.length : Int)) = false := decide_eq_false (by omega)
              have HB : Hid (u = bestB (l.map NdA.f) ys x) := by
                have e1 : u = true ↔ bestB (l.map NdA.f) ys x = true := by
                  rw [hu.out, bestB_iff]
                  constructor
                  · intro h1 o ho
                    obtain ⟨j', hj', e⟩ := List.mem_iff_getElem.1 ho
                    exact h1 j' (by omega) o (by rw [List.getElem?_eq_getElem hj', e])
                  · intro h1 j' hj' o ho
                    exact h1 o (List.mem_of_getElem? ho)
                unfold Hid
                cases hb1 : bestB (l.map NdA.f) ys x <;> cases u <;> simp_all
              have hbq := hb.next hbj
              have hoq : wr.ownsRow w3.heap.size 9 1 (.slice A7 zs.length c7) zs.length (pc zs) := own_belowW ho hbj
              have cxq : wr.cell? ⟨bl, ol + i, none⟩ = some (.string x) := (hbj.cell (p := ⟨bl, ol + i, none⟩) hbl2).trans cx1
              have hsq := hbq.size
              clear hu hj hcl cx1 ho hb hbj h3 hrY
              cases u with
              | true =>
                have HN : Hid ((ys.take (i + 1)).filter (bestB (l.map NdA.f) ys) = zs ++ [x]) := by unfold Hid; rw [HX.out, hz.out, ← HB.out]; simp
                have hn1 := Rd.new1 wr 9 (.string x)
                go_wp2_with (at_builtin; refine appVl rfl (.tmp 83) (.tmp 88) 26 9 _ 16 rfl Try.underlying26 info_string rfl w3.heap.size _ zs.length (pc zs) rfl (hoq.alloc _) (wr.heap.size + 1) _ 1 1 [Value.string x] rfl hn1 (by simp [Value.oneCell']) (by unfold maxLen; omega) (by omega) (by simp; omega) ?_; intro A11 c11 w11 y1 y2 y3 y4 y5; have hb11 := (hbq.alloc hsq (.cells #[Value.string x] 9)).trans y2)
                have hyl2 : (zs ++ [x]).length = zs.length + 1 := by rw [List.length_append]; rfl
                refine ⟨⟨i + 1, zs ++ [x], A11, c11, by rw [hyl2], by go_num, by omega, HN.out.symm, by omega, ?_, hb11⟩, by simp [intOf]; omega⟩
                rw [hyl2, pc_append]
                exact y1
              | false =>
                have HN : Hid ((ys.take (i + 1)).filter (bestB (l.map NdA.f) ys) = zs) := by unfold Hid; rw [HX.out, hz.out, ← HB.out]; simp
                go_wp2_with fail
                exact ⟨⟨i + 1, zs, A7, c7, rfl, by go_num, by omega, HN.out.symm, by omega, hoq, hbq⟩, by simp [intOf]; omega⟩
        · have hd : decide ((i : Int) < (ys.length : Int)) = false := decide_eq_false (by omega)
          have hkf : ys.take i = ys := List.take_of_length_le (by omega)
          rw [hkf] at hz
          clear hkf
          have HS1 : Hid (Strict zs) := by unfold Hid; rw [hz.out]; exact HT1.out
          have HS2 : Hid (∀ x, x ∈ zs ↔ BaseP (l.map NdA.f) a b x) := by unfold Hid; rw [hz.out]; exact HT2.out
          go_wp2_with fail
          go_ret
          exact ⟨zs, A7, c7, rfl, HS1, HS2, by omega, World.ownsRow.mono ho hs3, hb3.next hb⟩
end Go.Proofs.Yteeajmgiamdfdaa
