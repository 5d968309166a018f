/- The walk of the document's ready and Order. Conditions: fewer than 2^39 texts are to be looked at. -/
import Derived.Test.YteeajmgiamdfdaaRClo
import Derived.Test.YteeajmgiamdfdaaBasLaw
namespace Go.Proofs.Yteeajmgiamdfdaa
open Go.RowKit Go.Dol
set_option linter.unusedVariables false
/-- The rounds of 'ready': nothing speaks against it among the first k. -/
def RdyRel (ps all out : List ByteArray) (w : World) (r i : Value) (wr : World) : Prop :=
  ∃ k q : Nat, r = .bool false ∧ i = .int .i64 k ∧ k ≤ ps.length ∧ Hid (∀ j, j < k → ∀ y, ps[j]? = some y → y ∈ all → y ∈ out) ∧ Hid (wr = w.drewN q)
/-- Whether all parents of an id that are among others are there already. -/
def RetRdy (b : Bool) (w : World) (e : Ending) (w' : World) : Prop := ∃ (v : Bool) (n : Nat), e = .returned (.bool v) ∧ v = b ∧ w' = w.drewN n
set_option maxRecDepth 100000 in
set_option maxHeartbeats 3200000 in
theorem refReady_calls (A : Option Addr) (l : List NdA) (c : Nat) (A2 : Option Addr) (all : List ByteArray) (c2 : Nat) (A3 : Option Addr) (out : List ByteArray) (c3 : Nat) (x : ByteArray) (w : World) (h : NdsOk w A l)
    (hr2 : Rd w w.heap.size 1 A2 all.length (pc all)) (hr3 : Rd w w.heap.size 1 A3 out.length (pc out)) (hl2 : all.length ≤ 549755813888) (hl3 : out.length ≤ 549755813888) (hx : (parF (l.map NdA.f) x).isSome = true) :
    Calls Try.prog 40 #[.slice A l.length c, .slice A2 all.length c2, .slice A3 out.length c3, .string x] w (RetRdy (readyO (l.map NdA.f) all out x) w) := by
  have hll := h.len
  have HF := Lib.hid (find_calls A l c x w w.heap.size h.rd (by omega))
  go_enter Try.func40, Try.ntmps40
  go_wp2_with fail
  refine HF.out.mono ?_
  rintro e w9 ⟨rfl, hfd⟩
  rcases hfd with ⟨rfl, hpn⟩ | ⟨k, nd, rfl, hkl, hnd, hps⟩
  · exfalso
    rw [hpn.out] at hx
    cases hx
  · clear hx
    obtain ⟨nb, no, rfl, hnb, hncell⟩ := h.rd.at_ (by omega)
    have q1 : w9.cell? ⟨nb, no + k * 2 + 1, none⟩ = some (.slice nd.A nd.ps.length nd.c) := hncell _ _ (nc_get hnd.out).2
    obtain ⟨hpr, hpc1, hpc2⟩ := h.ps nd (List.mem_of_getElem? hnd.out)
    have hdk : (k : Int) < (l.length : Int) := by omega
    have hk0 : (0 : Int) ≤ (k : Int) := by omega
    unfold maxLen at hpc2
    have HRY : Hid (readyO (l.map NdA.f) all out x = nd.ps.all fun y => !decide (y ∈ all) || decide (y ∈ out)) := by
      unfold Hid readyO parL
      rw [hps.out]
      rfl
    clear hncell HF
    go_wp2_with fail
    go_loopw [8, 10] (fun r i wr => RdyRel nd.ps all out w9 r i wr) (fun _ i _ => nd.ps.length - (intOf i).toNat)
    case atStart => exact ⟨0, 0, rfl, rfl, Nat.zero_le _, fun j hj => by omega, rfl⟩
    case round =>
      obtain ⟨j, q, rfl, rfl, hj, hs, hwr⟩ := hrel
      by_cases h1 : j < nd.ps.length
      · have f1 : IntKind.i64.wrap ((j : Int) + 1) = (j : Int) + 1 := IntWalk.i64_in _ (by omega)
        have d1 : decide ((j : Int) < (nd.ps.length : Int)) = true := decide_eq_true (by omega)
        have d1' : (j : Int) < (nd.ps.length : Int) := by omega
        have hj0 : (0 : Int) ≤ (j : Int) := by omega
        obtain ⟨y, hy⟩ : ∃ y, nd.ps[j]? = some y := ⟨nd.ps[j], List.getElem?_eq_getElem h1⟩
        obtain ⟨pb, po, hpA, hpb, hpcell⟩ := hpr.at_ (by omega)
        have cy0 : w9.cell? ⟨pb, po + j, none⟩ = some (.string y) := hpcell j _ (by simp [pc, hy])
        have cy : wr.cell? ⟨pb, po + j, none⟩ = some (.string y) := by rw [hwr.out]; exact cy0
        have hrA : Rd wr w9.heap.size 1 A2 all.length (pc all) := by rw [hwr.out]; exact hr2.drewN q
        have hrO : Rd wr w9.heap.size 1 A3 out.length (pc out) := by rw [hwr.out]; exact hr3.drewN q
        have HA := Lib.hid (refHas_calls A2 all c2 y wr w9.heap.size hrA (by omega))
        have HO := Lib.hid (fun n => refHas_calls A3 out c3 y (wr.drewN n) w9.heap.size (hrO.drewN n) (by omega))
        have HY := Lib.hid hy
        clear hy hpcell cy0 hrA hrO
        obtain ⟨nA, hnA⟩ : ∃ A, A = nd.A := ⟨_, rfl⟩
        rw [← hnA] at hpA
        subst hpA
        rw [← hnA]
        clear hnA
        go_wp2_with fail
        refine HA.out.mono ?_
        rintro e v1 ⟨v, n1, rfl, hv, rfl⟩
        have cy1 : (wr.drewN n1).cell? ⟨pb, po + j, none⟩ = some (.string y) := cy
        cases v with
        | false =>
          have hyn : y ∉ all := fun h => by simpa using hv.2 h
          have HS : Hid (∀ j', j' < j + 1 → ∀ y, nd.ps[j']? = some y → y ∈ all → y ∈ out) := fun j' hj' y' hy' hm => by
            by_cases e : j' = j
            · rw [e, HY.out] at hy'
              injection hy' with hy'
              rw [← hy'] at hm
              exact absurd hm hyn
            · exact hs.out j' (by omega) y' hy' hm
          clear hv hyn
          go_wp2_with fail
          exact ⟨⟨j + 1, q + n1, rfl, by go_num, by omega, HS, by unfold Hid; rw [hwr.out, World.drewN_drewN]⟩, by simp [intOf]; omega⟩
        | true =>
          have hyn : y ∈ all := hv.1 rfl
          clear hv
          have hyN := Lib.hid hyn
          clear hyn
          go_wp2_with fail
          refine (HO.out n1).mono ?_
          rintro e v2 ⟨v, n2, rfl, hv, rfl⟩
          cases v with
          | true =>
            have hyo : y ∈ out := hv.1 rfl
            have HS : Hid (∀ j', j' < j + 1 → ∀ y, nd.ps[j']? = some y → y ∈ all → y ∈ out) := fun j' hj' y' hy' hm => by
              by_cases e : j' = j
              · rw [e, HY.out] at hy'
                injection hy' with hy'
                rw [← hy']
                exact hyo
              · exact hs.out j' (by omega) y' hy' hm
            clear hv hyo
            go_wp2_with fail
            exact ⟨⟨j + 1, q + (n1 + n2), rfl, by go_num, by omega, HS, by unfold Hid; rw [hwr.out, World.drewN_drewN]⟩, by simp [intOf]; omega⟩
          | false =>
            have hyo : y ∉ out := fun h => by simpa using hv.2 h
            have HE : Hid (readyO (l.map NdA.f) all out x = false) := by
              unfold Hid
              rw [HRY.out]
              refine Bool.eq_false_iff.2 fun h => ?_
              have := List.all_eq_true.1 h y (List.mem_of_getElem? HY.out)
              simp [hyN.out, hyo] at this
            clear hv hyo
            go_wp2_with fail
            go_ret
            exact ⟨false, q + (n1 + n2), rfl, HE.out.symm, by rw [hwr.out, World.drewN_drewN]⟩
      · have d1 : decide ((j : Int) < (nd.ps.length : Int)) = false := decide_eq_false (by omega)
        have HE : Hid (readyO (l.map NdA.f) all out x = true) := by
          unfold Hid
          rw [HRY.out, List.all_eq_true]
          intro y hy
          obtain ⟨i, hi, e⟩ := List.mem_iff_getElem.1 hy
          have := hs.out i (by omega) y (by rw [List.getElem?_eq_getElem hi, e])
          by_cases h2 : y ∈ all <;> simp [h2]
          exact this h2
        go_wp2_with fail
        go_ret
        exact ⟨true, q, rfl, HE.out.symm, hwr.out⟩
/-- The rounds that look for the next one. -/
def NxtRel (L : List Nd) (all out : List ByteArray) (v0 : World) (nx i : Value) (wr : World) : Prop :=
  ∃ k q : Nat, i = .int .i64 k ∧ k ≤ all.length ∧ Hid (wr = v0.drewN q) ∧
    ((nx = .int .i64 (-1) ∧ Hid (∀ j, j < k → ∀ y, all[j]? = some y → (!decide (y ∈ out) && readyO L all out y) = false)) ∨ ∃ (j : Nat) (y : ByteArray), nx = .int .i64 j ∧ k = j + 1 ∧ Hid (all[j]? = some y) ∧ Hid (nextO L all out = some y))
theorem nextO_at {L : List Nd} {all out : List ByteArray} {k : Nat} {y : ByteArray} (hy : all[k]? = some y) (hp : (!decide (y ∈ out) && readyO L all out y) = true) (hn : ∀ j, j < k → ∀ y, all[j]? = some y → (!decide (y ∈ out) && readyO L all out y) = false) : nextO L all out = some y := by
  unfold nextO
  rw [List.find?_eq_some_iff_getElem]
  obtain ⟨hk, e⟩ := List.getElem?_eq_some_iff.1 hy
  refine ⟨hp, k, hk, e, fun j hj => ?_⟩
  have := hn j hj _ (List.getElem?_eq_getElem (by omega))
  simp only [this]
  rfl
theorem nextO_no {L : List Nd} {all out : List ByteArray} (hn : ∀ j, j < all.length → ∀ y, all[j]? = some y → (!decide (y ∈ out) && readyO L all out y) = false) : nextO L all out = none := by
  unfold nextO
  rw [List.find?_eq_none]
  intro y hy
  obtain ⟨j, hj, e⟩ := List.mem_iff_getElem.1 hy
  have := hn j hj y (by rw [List.getElem?_eq_getElem hj, e])
  simp only [this]
  simp
def lenO : Value → Nat
  | .slice _ n _ => n
  | _ => 0
/-- The rounds of the document's Order. -/
def OrdRel (L : List Nd) (all : List ByteArray) (w : World) (o : Value) (wr : World) : Prop :=
  ∃ (zs : List ByteArray) (A : Option Addr) (c : Nat), o = .slice A zs.length c ∧ zs.length ≤ all.length ∧ Hid (OrdOk all zs) ∧ Hid (goO L all zs = orderO L all) ∧ wr.ownsRow w.heap.size 9 1 (.slice A zs.length c) zs.length (pc zs) ∧ Below w.heap.size w wr
/-- What an order hands back: the order of the row of what is reached. -/
def RetOrd (L : List Nd) (fr : List ByteArray) (w : World) (e : Ending) (w' : World) : Prop :=
  ∃ (all zs : List ByteArray) (A : Option Addr) (c : Nat), e = .returned (.slice A zs.length c) ∧ Hid (Strict all) ∧ Hid (∀ x, x ∈ all ↔ Rch L fr x) ∧ Hid (zs = orderO L all) ∧ zs.length ≤ 549755813888 ∧ w'.ownsRow w.heap.size 9 1 (.slice A zs.length c) zs.length (pc zs) ∧ Below w.heap.size w w'
set_option maxRecDepth 100000 in
set_option maxHeartbeats 6400000 in
theorem refOrder_calls (A : Option Addr) (l : List NdA) (c : Nat) (A2 : Option Addr) (fr : List ByteArray) (c2 : Nat) (w : World) (h : NdsOk w A l) (hr2 : Rd w w.heap.size 1 A2 fr.length (pc fr)) (hl : fr.length + room (l.map NdA.f) [] [] ≤ 549755813888) :
    Calls Try.prog 19 #[.slice A l.length c, .slice A2 fr.length c2] w (RetOrd (l.map NdA.f) fr w) := by
  have HC := Lib.hid (refClosure_calls A l c A2 fr c2 w h hr2 hl)
  go_enter Try.func19, Try.ntmps19
  go_wp2_with fail
  refine HC.out.mono ?_
  rintro e w1 ⟨all, Aa, ca, rfl, hsa, hma, hla, hoa, hb1⟩
  have h1 := h.below hb1
  have hra := Rd.of_own hoa
  have hs1 := hb1.size
  clear hoa HC h hr2
  go_wp2_with fail
  go_loopw [6] (fun o wr => OrdRel (l.map NdA.f) all w1 o wr) (fun o _ => all.length - lenO o)
  case atStart => exact ⟨[], none, 0, rfl, Nat.zero_le _, OrdOk.nil _, goO_start _ _, World.ownsRow_nil _ _ _ _, Below.refl _ _⟩
  case round =>
    obtain ⟨zs, A6, c6, rfl, hzl, hok, hgo, ho, hb⟩ := hrel
    have hs := hb.size
    by_cases hlt : zs.length < all.length
    · have hd : decide ((zs.length : Int) < (all.length : Int)) = true := decide_eq_true (by omega)
      have hdn : decide (zs.length < all.length) = true := decide_eq_true hlt
      have h2 := h1.below hb
      have hraw := (hra.belowW hb (Nat.le_refl _)).more hs
      have hrz := Rd.of_own ho
      obtain ⟨v0, hv0⟩ : ∃ v, v = wr := ⟨_, rfl⟩
      rw [← hv0] at hb ho hs h2 hraw hrz ⊢
      clear hv0
      go_wp2_with fail
      go_loopw [7, 8] (fun nx i wr => NxtRel (l.map NdA.f) all zs v0 nx i wr) (fun _ i _ => all.length - (intOf i).toNat)
      case atStart => exact ⟨0, 0, rfl, Nat.zero_le _, rfl, .inl ⟨rfl, fun j hj => by omega⟩⟩
      case round =>
        obtain ⟨k, q, rfl, hk, hwr, hnx⟩ := hrel
        have f1 : IntKind.i64.wrap ((k : Int) + 1) = (k : Int) + 1 := IntWalk.i64_in _ (by omega)
        rcases hnx with ⟨rfl, hno⟩ | ⟨j, y, rfl, hkj, hjy, hnext⟩
        · by_cases hkl : k < all.length
          · have hdk : decide ((k : Int) < (all.length : Int)) = true := decide_eq_true (by omega)
            have hdkn : decide (k < all.length) = true := decide_eq_true hkl
            have hdk' : (k : Int) < (all.length : Int) := by omega
            have hk0 : (0 : Int) ≤ (k : Int) := by omega
            obtain ⟨x, hx⟩ : ∃ x, all[k]? = some x := ⟨all[k], List.getElem?_eq_getElem hkl⟩
            obtain ⟨bl, ol, rfl, hbl, hcl⟩ := hraw.at_ (by omega)
            have cx0 : v0.cell? ⟨bl, ol + k, none⟩ = some (.string x) := hcl k _ (by simp [pc, hx])
            have cx : wr.cell? ⟨bl, ol + k, none⟩ = some (.string x) := by rw [hwr.out]; exact cx0
            have hkn : (parF (l.map NdA.f) x).isSome = true := ((hma.out x).1 (List.mem_of_getElem? hx)).known
            have HH : Hid (∀ n, Calls Try.prog 34 #[.slice A6 zs.length c6, .string x] (wr.drewN n) (RetEq (x ∈ zs) (wr.drewN n))) := fun n => by
              rw [hwr.out]
              exact refHas_calls A6 zs c6 x _ v0.heap.size ((hrz.drewN q).drewN n) (by omega)
            have HR : Hid (∀ n, Calls Try.prog 40 #[.slice A l.length c, .slice (some ⟨bl, ol, none⟩) all.length ca, .slice A6 zs.length c6, .string x] (wr.drewN n) (RetRdy (readyO (l.map NdA.f) all zs x) (wr.drewN n))) := fun n => by
              rw [hwr.out, World.drewN_drewN]
              exact refReady_calls A l c _ all ca A6 zs c6 x _ (h2.below (below_drewN (Below.refl _ _) _)) (hraw.drewN _) (hrz.drewN _) (by omega) (by omega) hkn
            have HX := Lib.hid hx
            clear hcl cx0 hx hkn h2 hra hraw hrz h1 ho
            go_wp2_with fail
            refine (HH.out 0).mono ?_
            rintro e v1 ⟨v, n1, rfl, hv, hw1⟩
            have hwv : v1 = wr.drewN n1 := by rw [hw1]; exact World.drewN_drewN _ _ _ |>.trans (by rw [Nat.zero_add])
            clear hw1 HH
            subst hwv
            have cx1 : (wr.drewN n1).cell? ⟨bl, ol + k, none⟩ = some (.string x) := cx
            cases v with
            | true =>
              have hxo : x ∈ zs := hv.1 rfl
              have HN : Hid (∀ j, j < k + 1 → ∀ y, all[j]? = some y → (!decide (y ∈ zs) && readyO (l.map NdA.f) all zs y) = false) := fun j hj y hy => by
                by_cases e : j = k
                · rw [e, HX.out] at hy
                  injection hy with hy
                  rw [← hy]
                  simp [hxo]
                · exact hno.out j (by omega) y hy
              clear hv hxo
              go_wp2_with fail
              exact ⟨⟨k + 1, q + n1, by go_num, by omega, by unfold Hid; rw [hwr.out, World.drewN_drewN], .inl ⟨rfl, HN⟩⟩, by simp [intOf]; omega⟩
            | false =>
              have hxo : x ∉ zs := fun h => by simpa using hv.2 h
              have HXO := Lib.hid hxo
              clear hv hxo
              go_wp2_with fail
              refine (HR.out n1).mono ?_
              rintro e v2 ⟨v, n2, rfl, hv, rfl⟩
              cases v with
              | true =>
                have HN : Hid (nextO (l.map NdA.f) all zs = some x) := nextO_at HX.out (by rw [← hv]; simp [HXO.out]) hno.out
                clear hv
                go_wp2_with fail
                exact ⟨⟨k + 1, q + (n1 + n2), by go_num, by omega, by unfold Hid; rw [hwr.out, World.drewN_drewN], .inr ⟨k, x, rfl, rfl, HX, HN⟩⟩, by simp [intOf]; omega⟩
              | false =>
                have HN : Hid (∀ j, j < k + 1 → ∀ y, all[j]? = some y → (!decide (y ∈ zs) && readyO (l.map NdA.f) all zs y) = false) := fun j hj y hy => by
                  by_cases e : j = k
                  · rw [e, HX.out] at hy
                    injection hy with hy
                    rw [← hy, ← hv]
                    simp
                  · exact hno.out j (by omega) y hy
                clear hv
                go_wp2_with fail
                exact ⟨⟨k + 1, q + (n1 + n2), by go_num, by omega, by unfold Hid; rw [hwr.out, World.drewN_drewN], .inl ⟨rfl, HN⟩⟩, by simp [intOf]; omega⟩
          · have hdk : decide ((k : Int) < (all.length : Int)) = false := decide_eq_false (by omega)
            have hdkn : decide (k < all.length) = false := decide_eq_false hkl
            have HF : Hid (zs = orderO (l.map NdA.f) all) := by
              unfold Hid
              rw [← hgo.out]
              exact (goO_none (nextO_no fun j hj => hno.out j (by omega))).symm
            have hbw : Below w1.heap.size w1 wr := by rw [hwr.out]; exact below_drewN hb q
            have how : wr.ownsRow w1.heap.size 9 1 (.slice A6 zs.length c6) zs.length (pc zs) := by rw [hwr.out]; exact ho
            clear h2 hra hraw hrz h1 ho hb
            go_wp2_with fail
            go_ret
            exact ⟨all, zs, A6, c6, rfl, hsa, hma, HF, by omega, World.ownsRow.mono how hs1, hb1.next hbw⟩
        · subst hkj
          have hj0 : (0 : Int) ≤ (j : Int) := by omega
          have hjl : j < all.length := by omega
          have hjl' : (j : Int) < (all.length : Int) := by omega
          have hjn : decide ((j : Int) < 0) = false := decide_eq_false (by omega)
          have hjn' : ¬ (j : Int) < 0 := by omega
          obtain ⟨bl, ol, rfl, hbl, hcl⟩ := hraw.at_ (by omega)
          have cx0 : v0.cell? ⟨bl, ol + j, none⟩ = some (.string y) := hcl j _ (by simp [pc, hjy.out])
          have cx : wr.cell? ⟨bl, ol + j, none⟩ = some (.string y) := by rw [hwr.out]; exact cx0
          have hbw : Below w1.heap.size w1 wr := by rw [hwr.out]; exact below_drewN hb q
          have how : wr.ownsRow w1.heap.size 9 1 (.slice A6 zs.length c6) zs.length (pc zs) := by rw [hwr.out]; exact ho
          have hsw := hbw.size
          have HG : Hid (goO (l.map NdA.f) all (zs ++ [y]) = orderO (l.map NdA.f) all) := (goO_some hok.out hnext.out).trans hgo.out
          have HO := Lib.hid (hok.out.next hnext.out)
          have hn1 := Rd.new1 wr 9 (.string y)
          clear hcl cx0 h2 hra hraw hrz h1 ho hb
          have hcut : decide ((j : Int) + 1 < (all.length : Int)) = true ∧ decide (j + 1 < all.length) = true ∨ decide ((j : Int) + 1 < (all.length : Int)) = false ∧ decide (j + 1 < all.length) = false := by
            by_cases hc : j + 1 < all.length
            · exact .inl ⟨decide_eq_true (by omega), decide_eq_true hc⟩
            · exact .inr ⟨decide_eq_false (by omega), decide_eq_false hc⟩
          rcases hcut with ⟨hc1, hc2⟩ | ⟨hc1, hc2⟩
          · go_wp2_with (at_builtin; refine appVl rfl (.tmp 48) (.tmp 53) 26 9 _ 16 rfl Try.underlying26 info_string rfl w1.heap.size _ zs.length (pc zs) rfl (how.alloc _) (wr.heap.size + 1) _ 1 1 [Value.string y] rfl hn1 (by simp [Value.oneCell']) (by unfold maxLen; omega) (by omega) (by simp; omega) ?_; intro A11 c11 w11 y1 y2 y3 y4 y5; have hb11 := (hbw.alloc hsw (.cells #[Value.string y] 9)).trans y2)
            have hyl2 : (zs ++ [y]).length = zs.length + 1 := by rw [List.length_append]; rfl
            refine ⟨⟨zs ++ [y], A11, c11, by rw [hyl2], by omega, HO, HG, ?_, hb11⟩, by simp [lenO]; omega⟩
            rw [hyl2, pc_append]
            exact y1
          · go_wp2_with (at_builtin; refine appVl rfl (.tmp 48) (.tmp 53) 26 9 _ 16 rfl Try.underlying26 info_string rfl w1.heap.size _ zs.length (pc zs) rfl (how.alloc _) (wr.heap.size + 1) _ 1 1 [Value.string y] rfl hn1 (by simp [Value.oneCell']) (by unfold maxLen; omega) (by omega) (by simp; omega) ?_; intro A11 c11 w11 y1 y2 y3 y4 y5; have hb11 := (hbw.alloc hsw (.cells #[Value.string y] 9)).trans y2)
            have hyl2 : (zs ++ [y]).length = zs.length + 1 := by rw [List.length_append]; rfl
            refine ⟨⟨zs ++ [y], A11, c11, by rw [hyl2], by omega, HO, HG, ?_, hb11⟩, by simp [lenO]; omega⟩
            rw [hyl2, pc_append]
            exact y1
    · have hd : decide ((zs.length : Int) < (all.length : Int)) = false := decide_eq_false (by omega)
      have hdn : decide (zs.length < all.length) = false := decide_eq_false hlt
      have HF : Hid (zs = orderO (l.map NdA.f) all) := by
        unfold Hid
        rw [← hgo.out]
        exact (goO_full hok.out (by omega)).symm
      go_wp2_with fail
      go_ret
      exact ⟨all, zs, A6, c6, rfl, hsa, hma, HF, by omega, World.ownsRow.mono ho hs1, hb1.next hb⟩
end Go.Proofs.Yteeajmgiamdfdaa
