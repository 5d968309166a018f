/- The walks of the document's 'object', its fourth part: Encode. Conditions: lengths below 2^47. -/
import Derived.Test.YtcefbhmmijmefaaObj20
import Derived.Test.YtcefbhmmijmefaaObj10
import Derived.Test.YtcefbhmmijmefaaRegLast
namespace Go.Proofs.Ytcefbhmmijmefaa
open Go.RowKit Go.Dol
set_option linter.unusedVariables false

set_option maxRecDepth 100000 in
set_option maxHeartbeats 4000000 in
theorem refEncode1_calls (Ad : Option Addr) (d : List UInt8) (cd : Nat) (Ae : Option Addr) (en : List Ent) (ce : Nat) (tr : ByteArray) (Ap : Option Addr) (pa : List ByteArray) (cp : Nat) (ta na wh : ByteArray) (st : Int) (te : ByteArray) (w : World) (hd : Rd w w.heap.size 1 Ad d.length (bc d)) (he : Rd w w.heap.size 3 Ae en.length (ec en)) (hp : Rd w w.heap.size 1 Ap pa.length (pc pa)) (hel : en.length ≤ 140737488355328) (hpl : pa.length ≤ 140737488355328) (hns : Hid (∀ e ∈ en, e.name.size ≤ maxLen)) (HC : Hid (checkB geS (⟨1, d, en, tr, pa, ta, na, wh, st, te⟩ : Go.Dol.Obj) = true)) :
    Calls Try.prog 45 #[.agg #[.int .i64 1, .slice Ad d.length cd, .slice Ae en.length ce, .string tr, .slice Ap pa.length cp, .string ta, .string na, .string wh, .int .i64 st, .string te]] w (RetEnc w (⟨1, d, en, tr, pa, ta, na, wh, st, te⟩ : Go.Dol.Obj)) := by
  have hb0 : Below w.heap.size w (w.alloc (.cells #[.int .i64 1, .slice Ad d.length cd, .slice Ae en.length ce, .string tr, .slice Ap pa.length cp, .string ta, .string na, .string wh, .int .i64 st, .string te] 43)) := (Below.refl _ _).alloc (Nat.le_refl _) _
  have hB0 := Blk.new w 43 (ocells 1 (.slice Ad d.length cd) (.slice Ae en.length ce) tr (.slice Ap pa.length cp) ta na wh st te)
  have hd0 := hd.alive hb0
  have he0 := he.alive hb0
  have hp0 := hp.alive hb0
  have hEC : Hid (errC (checkB geS (⟨1, d, en, tr, pa, ta, na, wh, st, te⟩ : Go.Dol.Obj)) = 0) := Lib.hid (by rw [HC.out]; rfl)
  go_enter Try.func45, Try.ntmps45
  go_wp2_with fail
  refine (refCheck_calls 1 Ad d cd Ae en ce tr Ap pa cp ta na wh st te _ he0 hp0 hel hpl hns).mono ?_
  rintro e w1 ⟨rfl, hb1⟩
  rw [hEC.out]
  have hB1 := hB0.below hb1 hB0.lt
  have hbw := hb0.next hb1
  have hd1 := hd0.alive hb1
  have he1 := he0.alive hb1
  have hp1 := hp0.alive hb1
  have hwr : IntKind.u8.wrap 1 = 1 := by rfl
  have hs1 : w.heap.size < w1.heap.size := hB1.lt
  have hn1 : w.heap.size ≠ w1.heap.size := by omega
  have hn2 : ¬ w1.heap.size = w.heap.size := by omega
  have ho1 : (w1.alloc (.cells #[.int .u8 1] 5)).ownsRow w.heap.size 5 1 (.slice (some ⟨w1.heap.size, 0, none⟩) 1 1) 1 (bc [1]) := World.ownsRow_lit w1 #[.int .u8 1] 1 hbw.size (by decide) rfl
  have hbo : Below w1.heap.size w1 (w1.alloc (.cells #[.int .u8 1] 5)) := (Below.refl _ _).alloc (Nat.le_refl _) _
  have hb2 := hbw.next hbo
  have hB2 := hB1.alloc (.cells #[.int .u8 1] 5)
  have hd2 := hd1.alive hbo
  have he2 := he1.alive hbo
  have hp2 := hp1.alive hbo
  obtain ⟨c0, c1, c2, c3, c4, c5, c6, c7, c8, c9⟩ := obj_cells hB1
  have hdl : d.length ≤ 1048576 := check1_parts rfl HC.out
  go_wp2_with (at_builtin; refine app8 rfl (.tmp 37) (.tmp 39) rfl w.heap.size _ 1 [1] rfl ho1 _ Ad d.length cd d rfl hd2 (by omega) hb2.size ?_)
  intro l A c w3 h0 h1 h2 h3 h4 h5 h6
  go_wp2_with fail
  go_ret2
  exact ⟨hb2.trans h2, .inl ⟨HC.out, l, A, c, by unfold Hid; rw [h0.out]; rfl, rfl, h1⟩⟩

def RPars (g : Nat) (T : List UInt8) (ps : List ByteArray) (cs : List Value) (w : World) (b i : Value) (wr : World) : Prop :=
  ∃ (k : Nat) (l : List UInt8) (A : Option Addr) (c : Nat), i = .int .i64 k ∧ b = .slice A l.length c ∧ k ≤ ps.length ∧ Hid (l = T ++ parsN (ps.take k)) ∧ wr.ownsRow w.heap.size 5 1 (.slice A l.length c) l.length (bc l) ∧ l.length ≤ c ∧ c ≤ maxLen ∧ Blk wr g 43 cs ∧ Below w.heap.size w wr
def REnts (g : Nat) (T : List UInt8) (es : List Ent) (cs : List Value) (w : World) (b i : Value) (wr : World) : Prop :=
  ∃ (k : Nat) (l : List UInt8) (A : Option Addr) (c : Nat), i = .int .i64 k ∧ b = .slice A l.length c ∧ k ≤ es.length ∧ Hid (l = T ++ (es.take k).flatMap entB) ∧ wr.ownsRow w.heap.size 5 1 (.slice A l.length c) l.length (bc l) ∧ l.length ≤ c ∧ c ≤ maxLen ∧ Blk wr g 43 cs ∧ Below w.heap.size w wr

set_option maxRecDepth 100000 in
set_option maxHeartbeats 4000000 in
theorem refEncode3_calls (Ad : Option Addr) (d : List UInt8) (cd : Nat) (Ae : Option Addr) (en : List Ent) (ce : Nat) (tr : ByteArray) (Ap : Option Addr) (pa : List ByteArray) (cp : Nat) (ta na wh : ByteArray) (st : Int) (te : ByteArray) (w : World) (hd : Rd w w.heap.size 1 Ad d.length (bc d)) (he : Rd w w.heap.size 3 Ae en.length (ec en)) (hp : Rd w w.heap.size 1 Ap pa.length (pc pa)) (hel : en.length ≤ 140737488355328) (hpl : pa.length ≤ 140737488355328) (hns : Hid (∀ e ∈ en, e.name.size ≤ maxLen)) (HC : Hid (checkB geS (⟨3, d, en, tr, pa, ta, na, wh, st, te⟩ : Go.Dol.Obj) = true)) :
    Calls Try.prog 45 #[.agg #[.int .i64 3, .slice Ad d.length cd, .slice Ae en.length ce, .string tr, .slice Ap pa.length cp, .string ta, .string na, .string wh, .int .i64 st, .string te]] w (RetEnc w (⟨3, d, en, tr, pa, ta, na, wh, st, te⟩ : Go.Dol.Obj)) := by
  have hb0 : Below w.heap.size w (w.alloc (.cells #[.int .i64 3, .slice Ad d.length cd, .slice Ae en.length ce, .string tr, .slice Ap pa.length cp, .string ta, .string na, .string wh, .int .i64 st, .string te] 43)) := (Below.refl _ _).alloc (Nat.le_refl _) _
  have hB0 := Blk.new w 43 (ocells 3 (.slice Ad d.length cd) (.slice Ae en.length ce) tr (.slice Ap pa.length cp) ta na wh st te)
  have hd0 := hd.alive hb0
  have he0 := he.alive hb0
  have hp0 := hp.alive hb0
  have hEC : Hid (errC (checkB geS (⟨3, d, en, tr, pa, ta, na, wh, st, te⟩ : Go.Dol.Obj)) = 0) := Lib.hid (by rw [HC.out]; rfl)
  go_enter Try.func45, Try.ntmps45
  go_wp2_with fail
  refine (refCheck_calls 3 Ad d cd Ae en ce tr Ap pa cp ta na wh st te _ he0 hp0 hel hpl hns).mono ?_
  rintro e w1 ⟨rfl, hb1⟩
  rw [hEC.out]
  have hB1 := hB0.below hb1 hB0.lt
  have hbw := hb0.next hb1
  have hd1 := hd0.alive hb1
  have he1 := he0.alive hb1
  have hp1 := hp0.alive hb1
  have hwr : IntKind.u8.wrap 3 = 3 := by rfl
  have hs1 : w.heap.size < w1.heap.size := hB1.lt
  have hn1 : w.heap.size ≠ w1.heap.size := by omega
  have hn2 : ¬ w1.heap.size = w.heap.size := by omega
  have ho1 : (w1.alloc (.cells #[.int .u8 3] 5)).ownsRow w.heap.size 5 1 (.slice (some ⟨w1.heap.size, 0, none⟩) 1 1) 1 (bc [3]) := World.ownsRow_lit w1 #[.int .u8 3] 1 hbw.size (by decide) rfl
  have hbo : Below w1.heap.size w1 (w1.alloc (.cells #[.int .u8 3] 5)) := (Below.refl _ _).alloc (Nat.le_refl _) _
  have hb2 := hbw.next hbo
  have hB2 := hB1.alloc (.cells #[.int .u8 3] 5)
  have hd2 := hd1.alive hbo
  have he2 := he1.alive hbo
  have hp2 := hp1.alive hbo
  obtain ⟨c0, c1, c2, c3, c4, c5, c6, c7, c8, c9⟩ := obj_cells hB1
  obtain ⟨hts, hpb, htb⟩ := check3_parts rfl HC.out
  obtain ⟨hw1, hw2, _, _⟩ := told_parts htb
  simp only at hts hpb htb hw1 hw2
  have hpl4 := (parsB_parts hpb).2
  have hpn := pars_small hpb
  have hcl : Hid (clampN (pa.length : Int) = pa.length) := by unfold Hid clampN; omega
  clear htb hpb
  go_wp2_with (at_builtin; refine app8s rfl (.tmp 83) (.tmp 85) rfl w.heap.size _ 1 [3] rfl ho1 tr rfl (by omega) hb2.size ?_)
  intro l1 A1 cc1 w3 e1 ho3 hb3 hg3 i1 i2
  have hl1 : l1.length ≤ 33 := by rw [e1.out]; simp only [List.length_cons, str_len]; omega
  have hB3 := hB2.grown hg3 (fun e => own_ne ho1 hB2 (by decide) e.symm)
  have hbw3 := hb2.trans hb3
  obtain ⟨d0, d1, d2, d3, d4, d5, d6, d7, d8, d9⟩ := obj_cells hB3
  clear c0 c1 c2 c3 c4 c5 c6 c7 c8 c9
  go_wp2_with fail
  refine (RefPutNum_calls A1 l1 cc1 _ w3 (Rd.of_own ho3) (by omega)).mono ?_
  rintro e w4 ⟨l2, A2, cc2, e2, rfl, ho4, hb4, i3, i4⟩
  have hB4 := hB3.below hb4 hB3.lt
  have hbw4 := hbw3.next hb4
  have ho4' := ho4.base hbw3.size
  obtain ⟨T, hTe⟩ : ∃ T, T = [3] ++ tr.data.toList ++ num pa.length := ⟨_, rfl⟩
  have hT : Hid (l2 = T ++ parsN (pa.take 0)) := by
    unfold Hid
    rw [e2.out, e1.out, hcl.out, hTe]
    simp [parsN]
  have hTl : T.length ≤ 42 := by
    rw [hTe]
    simp only [List.length_append, str_len, List.length_singleton]
    have := num_length_le 8 pa.length (by omega)
    omega
  have HTE := Lib.hid hTe
  clear d0 d1 d2 d3 d4 d5 d6 d7 d8 d9 hTe e1 e2
  go_wp2_with fail
  go_loopw [4, 7] (fun b i wr => RPars w.heap.size T pa (ocells 3 (.slice Ad d.length cd) (.slice Ae en.length ce) tr (.slice Ap pa.length cp) ta na wh st te) w b i wr) (fun _ i _ => pa.length - (intOf i).toNat)
  case atStart => exact ⟨0, l2, A2, cc2, rfl, rfl, Nat.zero_le _, hT, ho4', i3, i4, hB4, hbw4⟩
  case round =>
    clear hT ho4' hB4 hbw4 i3 i4 hB3 hbw3 ho3 ho4 hb3 hb4 hg3
    obtain ⟨k', l3, A3, c3, rfl, rfl, hk, hT, hown, i3, i4, hB, hbel⟩ := hrel
    obtain ⟨k0, k1, k2, k3, k4, k5, k6, k7, k8, k9⟩ := obj_cells hB
    have hs := hbel.size
    have hl3 : l3.length ≤ T.length + (parsN pa).length := by rw [hT.out, List.length_append]; have := parsN_le pa k'; omega
    have f1 : IntKind.i64.wrap ((k' : Int) + 1) = (k' : Int) + 1 := IntWalk.i64_in _ (by omega)
    by_cases h1 : k' < pa.length
    · have d1 : decide ((k' : Int) < (pa.length : Int)) = true := decide_eq_true (by omega)
      have d1' : (k' : Int) < (pa.length : Int) := by omega
      have hk0 : (0 : Int) ≤ (k' : Int) := by omega
      have hlen1 : pa.length ≤ 9223372036854775807 := by omega
      have hrw := hp.below hbel
      obtain ⟨bb, off, rfl, hbb, hcell⟩ := hrw.at_ (by omega)
      have q0 := hcell _ _ (pc_get h1)
      obtain ⟨p, hp'⟩ : ∃ p, p = pa[k'] := ⟨_, rfl⟩
      rw [← hp'] at q0
      have hsucc : Hid (parsN (pa.take (k' + 1)) = parsN (pa.take k') ++ p.data.toList) := by unfold Hid; rw [parsN_succ h1, hp']
      have hfit : l3.length + p.size ≤ 140737488355328 := by
        have h5 := parsN_le pa (k' + 1)
        rw [hsucc.out, List.length_append, str_len] at h5
        have h6 := congrArg List.length hT.out
        rw [List.length_append] at h6
        omega
      have hne : some w.heap.size ≠ (Value.slice A3 l3.length c3).ownBlock := fun e => own_ne hown hB (by decide) e.symm
      clear hp' hcell
      go_wp2_with (at_builtin; refine app8s rfl (.tmp 99) (.tmp 104) rfl w.heap.size _ l3.length l3 rfl hown p rfl hfit hs ?_)
      intro l4 A4 c4 w4 e4 ho4 hb4 hg4 i5 i6
      go_wp2_with fail
      refine ⟨⟨k' + 1, l4, A4, c4, by go_num, rfl, h1, ?_, ho4, i5, i6, hB.grown hg4 hne, hbel.trans hb4⟩, by simp [intOf]; omega⟩
      unfold Hid
      rw [e4.out, hT.out, hsucc.out, List.append_assoc]
    · have d1 : decide ((k' : Int) < (pa.length : Int)) = false := decide_eq_false (by omega)
      have d1' : ¬ (k' : Int) < (pa.length : Int) := by omega
      have hkl : k' = pa.length := by omega
      have hT2 : Hid (l3 = T ++ parsN pa) := by unfold Hid; rw [hT.out, hkl, List.take_length]
      clear hkl
      go_wp2_with fail
      refine (RefPutText_calls A3 l3 c3 wh wr (Rd.of_own hown) (by omega)).mono ?_
      rintro e w5 ⟨l5, A5, c5, e5, rfl, ho5, hb5, i5, i6⟩
      have hB5 := hB.below hb5 hB.lt
      have hr5 := Rd.of_own ho5
      have hl5 : l5.length ≤ l3.length + (9 + 1000) := by rw [e5.out, List.length_append]; have := tx_length (s := wh) (by omega); unfold tx at this; omega
      have hbel5 := hbel.next hb5
      clear k0 k1 k2 k3 k4 k5 k6 k7 k8 k9
      go_wp2_with fail
      have zx : w5.cell? ⟨w.heap.size, 8, none⟩ = some (.int .i64 st) ∧ w5.cell? ⟨w.heap.size, 9, none⟩ = some (.string te) := ⟨by rw [hB5.cell]; rfl, by rw [hB5.cell]; rfl⟩
      refine wp_region_held_drew (S := fun w' => w'.cell? ⟨w.heap.size, 8, none⟩ = some (.int .i64 st) ∧ w'.cell? ⟨w.heap.size, 9, none⟩ = some (.string te)) (by kernel_rfl) zx (fun hHeld => ?_)
      refine wpAnyH_take (i := 0) (oi := _) (v := .slice A5 l5.length c5) rfl (by kernel_rfl) (by kernel_rfl) (by kernel_rfl) (fun _ _ _ h => h) (Or.inl ⟨by rfl, fun w' hS => ?_⟩) hHeld ?_
      · obtain ⟨s0, s1⟩ := hS
        go_simp
      try simp only [Act.put, List.setIfInBounds_toArray, List.set_cons_zero, List.set_cons_succ, List.getElem_toArray, List.getElem_cons_zero]
      refine wpAnyH_take (i := 1) (oi := _) (v := .pointer (some ⟨w.heap.size, 8, none⟩)) rfl (by kernel_rfl) (by kernel_rfl) (by kernel_rfl) (fun _ _ _ h => h) (Or.inl ⟨by rfl, fun w' hS => ?_⟩) hHeld ?_
      · obtain ⟨s0, s1⟩ := hS
        go_simp
      try simp only [Act.put, List.setIfInBounds_toArray, List.set_cons_zero, List.set_cons_succ, List.getElem_toArray, List.getElem_cons_succ, List.getElem_cons_zero]
      refine wpAnyH_take (i := 2) (oi := _) (v := .int .i64 st) rfl (by kernel_rfl) (by kernel_rfl) (by kernel_rfl) (fun _ _ _ h => h) (Or.inl ⟨by rfl, fun w' hS => ?_⟩) hHeld ?_
      · obtain ⟨s0, s1⟩ := hS
        go_simp
      try simp only [Act.put, List.setIfInBounds_toArray, List.set_cons_zero, List.set_cons_succ, List.getElem_toArray, List.getElem_cons_succ, List.getElem_cons_zero]
      refine wpAnyH_take (i := 4) (oi := _) (v := .pointer (some ⟨w.heap.size, 9, none⟩)) rfl (by kernel_rfl) (by kernel_rfl) (by kernel_rfl) (fun _ _ _ h => h) (Or.inl ⟨by rfl, fun w' hS => ?_⟩) hHeld ?_
      · obtain ⟨s0, s1⟩ := hS
        go_simp
      try simp only [Act.put, List.setIfInBounds_toArray, List.set_cons_zero, List.set_cons_succ, List.getElem_toArray, List.getElem_cons_succ, List.getElem_cons_zero]
      refine wpAnyH_take (i := 5) (oi := _) (v := .string te) rfl (by kernel_rfl) (by kernel_rfl) (by kernel_rfl) (fun _ _ _ h => h) (Or.inl ⟨by rfl, fun w' hS => ?_⟩) hHeld ?_
      · obtain ⟨s0, s1⟩ := hS
        go_simp
      try simp only [Act.put, List.setIfInBounds_toArray, List.set_cons_zero, List.set_cons_succ, List.getElem_toArray, List.getElem_cons_succ, List.getElem_cons_zero]
      refine wpAnyH_ready (rs := [3]) (by kernel_rfl) (by simp) (AllReadyH.cons (o := _) rfl (fun K hK => ?_) AllReadyH.nil)
      go_simp
      refine (RefPutNum_calls A5 l5 c5 st w5.drew hr5.drew (by omega)).mono ?_
      rintro e wax ⟨lax, Aax, cax, eax, rfl, oax, bax, _, _⟩
      have Bax := hB5.drew.below bax hB5.lt
      have rax := Rd.of_own oax
      have nax : lax.length ≤ l5.length + 9 := by rw [eax.out, List.length_append]; have := num_length_le 8 (clampN st) (by have := clampN_le st; unfold mostNum at this; omega); omega
      have zax : wax.cell? ⟨w.heap.size, 8, none⟩ = some (.int .i64 st) ∧ wax.cell? ⟨w.heap.size, 9, none⟩ = some (.string te) := ⟨by rw [Bax.cell]; rfl, by rw [Bax.cell]; rfl⟩
      refine hK.out _ _ zax (fun hHeld => ?_)
      clear hK K
      try simp only [Act.put, List.setIfInBounds_toArray, List.set_cons_zero, List.set_cons_succ, List.getElem_toArray, List.getElem_cons_succ, List.getElem_cons_zero]
      refine wpAnyH_ready (rs := [6]) (by kernel_rfl) (by simp) (AllReadyH.cons (o := _) rfl (fun K hK => ?_) AllReadyH.nil)
      go_simp
      refine (RefPutText_calls Aax lax cax te wax rax (by omega)).mono ?_
      rintro e wbx ⟨lbx, Abx, cbx, ebx, rfl, obx, bbx, jbx, kbx⟩
      have Bbx := Bax.below bbx Bax.lt
      have nbx : lbx.length ≤ lax.length + (9 + 1000) := by rw [ebx.out, List.length_append]; have := tx_length (s := te) (by omega); unfold tx at this; omega
      have zbx : wbx.cell? ⟨w.heap.size, 8, none⟩ = some (.int .i64 st) ∧ wbx.cell? ⟨w.heap.size, 9, none⟩ = some (.string te) := ⟨by rw [Bbx.cell]; rfl, by rw [Bbx.cell]; rfl⟩
      refine hK.out _ _ zbx (fun hHeld => ?_)
      clear hK K
      try simp only [Act.put, List.setIfInBounds_toArray, List.set_cons_zero, List.set_cons_succ, List.getElem_toArray, List.getElem_cons_succ, List.getElem_cons_zero]
      refine wpAnyH_take (i := 7) (oi := _) (v := .slice Abx lbx.length cbx) rfl (by kernel_rfl) (by kernel_rfl) (by kernel_rfl) (fun _ _ _ h => h) (Or.inl ⟨by rfl, fun w' hS => ?_⟩) hHeld ?_
      · obtain ⟨s0, s1⟩ := hS
        go_simp
      try simp only [Act.put, List.setIfInBounds_toArray, List.set_cons_zero, List.set_cons_succ, List.getElem_toArray, List.getElem_cons_succ, List.getElem_cons_zero]
      refine wpAnyH_done (by kernel_rfl) ?_ _
      have btx : Below w5.heap.size w5 wbx := ((Below.refl _ _).drew).trans (Below.trans bax (bbx.mono bax.size))
      go_wp2_with fail
      go_ret2
      refine ⟨hbel5.next btx, .inl ⟨HC.out, lbx, Abx, cbx, ?_, rfl, obx.base (Nat.le_trans hbel5.size bax.size)⟩⟩
      unfold Hid
      rw [ebx.out, eax.out, e5.out, hT2.out, HTE.out]
      show _ = [3] ++ (tr.data.toList ++ (parsL pa ++ (tx wh ++ (num (clampN st) ++ tx te))))
      unfold parsL parsN tx
      simp only [List.append_assoc]

set_option maxRecDepth 100000 in
set_option maxHeartbeats 4000000 in
theorem refEncode4_calls (Ad : Option Addr) (d : List UInt8) (cd : Nat) (Ae : Option Addr) (en : List Ent) (ce : Nat) (tr : ByteArray) (Ap : Option Addr) (pa : List ByteArray) (cp : Nat) (ta na wh : ByteArray) (st : Int) (te : ByteArray) (w : World) (hd : Rd w w.heap.size 1 Ad d.length (bc d)) (he : Rd w w.heap.size 3 Ae en.length (ec en)) (hp : Rd w w.heap.size 1 Ap pa.length (pc pa)) (hel : en.length ≤ 140737488355328) (hpl : pa.length ≤ 140737488355328) (hns : Hid (∀ e ∈ en, e.name.size ≤ maxLen)) (HC : Hid (checkB geS (⟨4, d, en, tr, pa, ta, na, wh, st, te⟩ : Go.Dol.Obj) = true)) :
    Calls Try.prog 45 #[.agg #[.int .i64 4, .slice Ad d.length cd, .slice Ae en.length ce, .string tr, .slice Ap pa.length cp, .string ta, .string na, .string wh, .int .i64 st, .string te]] w (RetEnc w (⟨4, d, en, tr, pa, ta, na, wh, st, te⟩ : Go.Dol.Obj)) := by
  have hb0 : Below w.heap.size w (w.alloc (.cells #[.int .i64 4, .slice Ad d.length cd, .slice Ae en.length ce, .string tr, .slice Ap pa.length cp, .string ta, .string na, .string wh, .int .i64 st, .string te] 43)) := (Below.refl _ _).alloc (Nat.le_refl _) _
  have hB0 := Blk.new w 43 (ocells 4 (.slice Ad d.length cd) (.slice Ae en.length ce) tr (.slice Ap pa.length cp) ta na wh st te)
  have hd0 := hd.alive hb0
  have he0 := he.alive hb0
  have hp0 := hp.alive hb0
  have hEC : Hid (errC (checkB geS (⟨4, d, en, tr, pa, ta, na, wh, st, te⟩ : Go.Dol.Obj)) = 0) := Lib.hid (by rw [HC.out]; rfl)
  go_enter Try.func45, Try.ntmps45
  go_wp2_with fail
  refine (refCheck_calls 4 Ad d cd Ae en ce tr Ap pa cp ta na wh st te _ he0 hp0 hel hpl hns).mono ?_
  rintro e w1 ⟨rfl, hb1⟩
  rw [hEC.out]
  have hB1 := hB0.below hb1 hB0.lt
  have hbw := hb0.next hb1
  have hd1 := hd0.alive hb1
  have he1 := he0.alive hb1
  have hp1 := hp0.alive hb1
  have hwr : IntKind.u8.wrap 4 = 4 := by rfl
  have hs1 : w.heap.size < w1.heap.size := hB1.lt
  have hn1 : w.heap.size ≠ w1.heap.size := by omega
  have hn2 : ¬ w1.heap.size = w.heap.size := by omega
  have ho1 : (w1.alloc (.cells #[.int .u8 4] 5)).ownsRow w.heap.size 5 1 (.slice (some ⟨w1.heap.size, 0, none⟩) 1 1) 1 (bc [4]) := World.ownsRow_lit w1 #[.int .u8 4] 1 hbw.size (by decide) rfl
  have hbo : Below w1.heap.size w1 (w1.alloc (.cells #[.int .u8 4] 5)) := (Below.refl _ _).alloc (Nat.le_refl _) _
  have hb2 := hbw.next hbo
  have hB2 := hB1.alloc (.cells #[.int .u8 4] 5)
  have hd2 := hd1.alive hbo
  have he2 := he1.alive hbo
  have hp2 := hp1.alive hbo
  obtain ⟨c0, c1, c2, c3, c4, c5, c6, c7, c8, c9⟩ := obj_cells hB1
  obtain ⟨hts, hnz, htb⟩ := check4_parts rfl HC.out
  obtain ⟨hw1, hw2, _, _⟩ := told_parts htb
  simp only at hts hnz htb hw1 hw2
  clear htb
  go_wp2_with (at_builtin; refine app8s rfl (.tmp 17) (.tmp 19) rfl w.heap.size _ 1 [4] rfl ho1 ta rfl (by omega) hb2.size ?_)
  intro l1 A1 cc1 w3 e1 ho3 hb3 hg3 i1 i2
  have hl1 : l1.length ≤ 33 := by rw [e1.out]; simp only [List.length_cons, str_len]; omega
  have hB3 := hB2.grown hg3 (fun e => own_ne ho1 hB2 (by decide) e.symm)
  have hbw3 := hb2.trans hb3
  have hr3 := Rd.of_own ho3
  clear c0 c1 c2 c3 c4 c5 c6 c7 c8 c9
  go_wp2_with fail
  have zx : w3.cell? ⟨w.heap.size, 6, none⟩ = some (.string na) ∧ w3.cell? ⟨w.heap.size, 7, none⟩ = some (.string wh) := ⟨by rw [hB3.cell]; rfl, by rw [hB3.cell]; rfl⟩
  refine wp_region_held_drew (S := fun w' => w'.cell? ⟨w.heap.size, 6, none⟩ = some (.string na) ∧ w'.cell? ⟨w.heap.size, 7, none⟩ = some (.string wh)) (by kernel_rfl) zx (fun hHeld => ?_)
  refine wpAnyH_take (i := 0) (oi := _) (v := .slice A1 l1.length cc1) rfl (by kernel_rfl) (by kernel_rfl) (by kernel_rfl) (fun _ _ _ h => h) (Or.inl ⟨by rfl, fun w' hS => ?_⟩) hHeld ?_
  · obtain ⟨s0, s1⟩ := hS
    go_simp
  try simp only [Act.put, List.setIfInBounds_toArray, List.set_cons_zero, List.set_cons_succ, List.getElem_toArray, List.getElem_cons_zero]
  refine wpAnyH_take (i := 1) (oi := _) (v := .pointer (some ⟨w.heap.size, 6, none⟩)) rfl (by kernel_rfl) (by kernel_rfl) (by kernel_rfl) (fun _ _ _ h => h) (Or.inl ⟨by rfl, fun w' hS => ?_⟩) hHeld ?_
  · obtain ⟨s0, s1⟩ := hS
    go_simp
  try simp only [Act.put, List.setIfInBounds_toArray, List.set_cons_zero, List.set_cons_succ, List.getElem_toArray, List.getElem_cons_succ, List.getElem_cons_zero]
  refine wpAnyH_take (i := 2) (oi := _) (v := .string na) rfl (by kernel_rfl) (by kernel_rfl) (by kernel_rfl) (fun _ _ _ h => h) (Or.inl ⟨by rfl, fun w' hS => ?_⟩) hHeld ?_
  · obtain ⟨s0, s1⟩ := hS
    go_simp
  try simp only [Act.put, List.setIfInBounds_toArray, List.set_cons_zero, List.set_cons_succ, List.getElem_toArray, List.getElem_cons_succ, List.getElem_cons_zero]
  refine wpAnyH_take (i := 4) (oi := _) (v := .pointer (some ⟨w.heap.size, 7, none⟩)) rfl (by kernel_rfl) (by kernel_rfl) (by kernel_rfl) (fun _ _ _ h => h) (Or.inl ⟨by rfl, fun w' hS => ?_⟩) hHeld ?_
  · obtain ⟨s0, s1⟩ := hS
    go_simp
  try simp only [Act.put, List.setIfInBounds_toArray, List.set_cons_zero, List.set_cons_succ, List.getElem_toArray, List.getElem_cons_succ, List.getElem_cons_zero]
  refine wpAnyH_take (i := 5) (oi := _) (v := .string wh) rfl (by kernel_rfl) (by kernel_rfl) (by kernel_rfl) (fun _ _ _ h => h) (Or.inl ⟨by rfl, fun w' hS => ?_⟩) hHeld ?_
  · obtain ⟨s0, s1⟩ := hS
    go_simp
  try simp only [Act.put, List.setIfInBounds_toArray, List.set_cons_zero, List.set_cons_succ, List.getElem_toArray, List.getElem_cons_succ, List.getElem_cons_zero]
  refine wpAnyH_ready (rs := [3]) (by kernel_rfl) (by simp) (AllReadyH.cons (o := _) rfl (fun K hK => ?_) AllReadyH.nil)
  go_simp
  refine (RefPutText_calls A1 l1 cc1 na w3.drew hr3.drew (by omega)).mono ?_
  rintro e wax ⟨lax, Aax, cax, eax, rfl, oax, bax, _, _⟩
  have Bax := hB3.drew.below bax hB3.lt
  have rax := Rd.of_own oax
  have nax : lax.length ≤ l1.length + (9 + 200) := by rw [eax.out, List.length_append]; have := tx_length (s := na) (by omega); unfold tx at this; omega
  have zax : wax.cell? ⟨w.heap.size, 6, none⟩ = some (.string na) ∧ wax.cell? ⟨w.heap.size, 7, none⟩ = some (.string wh) := ⟨by rw [Bax.cell]; rfl, by rw [Bax.cell]; rfl⟩
  refine hK.out _ _ zax (fun hHeld => ?_)
  clear hK K
  try simp only [Act.put, List.setIfInBounds_toArray, List.set_cons_zero, List.set_cons_succ, List.getElem_toArray, List.getElem_cons_succ, List.getElem_cons_zero]
  refine wpAnyH_ready (rs := [6]) (by kernel_rfl) (by simp) (AllReadyH.cons (o := _) rfl (fun K hK => ?_) AllReadyH.nil)
  go_simp
  refine (RefPutText_calls Aax lax cax wh wax rax (by omega)).mono ?_
  rintro e wbx ⟨lbx, Abx, cbx, ebx, rfl, obx, bbx, jbx, kbx⟩
  have Bbx := Bax.below bbx Bax.lt
  have nbx : lbx.length ≤ lax.length + (9 + 1000) := by rw [ebx.out, List.length_append]; have := tx_length (s := wh) (by omega); unfold tx at this; omega
  have zbx : wbx.cell? ⟨w.heap.size, 6, none⟩ = some (.string na) ∧ wbx.cell? ⟨w.heap.size, 7, none⟩ = some (.string wh) := ⟨by rw [Bbx.cell]; rfl, by rw [Bbx.cell]; rfl⟩
  refine hK.out _ _ zbx (fun hHeld => ?_)
  clear hK K
  try simp only [Act.put, List.setIfInBounds_toArray, List.set_cons_zero, List.set_cons_succ, List.getElem_toArray, List.getElem_cons_succ, List.getElem_cons_zero]
  refine wpAnyH_take (i := 7) (oi := _) (v := .slice Abx lbx.length cbx) rfl (by kernel_rfl) (by kernel_rfl) (by kernel_rfl) (fun _ _ _ h => h) (Or.inl ⟨by rfl, fun w' hS => ?_⟩) hHeld ?_
  · obtain ⟨s0, s1⟩ := hS
    go_simp
  try simp only [Act.put, List.setIfInBounds_toArray, List.set_cons_zero, List.set_cons_succ, List.getElem_toArray, List.getElem_cons_succ, List.getElem_cons_zero]
  refine wpAnyH_done (by kernel_rfl) ?_ _
  have btx : Below w3.heap.size w3 wbx := ((Below.refl _ _).drew).trans (Below.trans bax (bbx.mono bax.size))
  have hrx := Rd.of_own obx
  go_wp2_with fail
  have zy : wbx.cell? ⟨w.heap.size, 8, none⟩ = some (.int .i64 st) ∧ wbx.cell? ⟨w.heap.size, 9, none⟩ = some (.string te) := ⟨by rw [Bbx.cell]; rfl, by rw [Bbx.cell]; rfl⟩
  refine wp_region_held_drew (S := fun w' => w'.cell? ⟨w.heap.size, 8, none⟩ = some (.int .i64 st) ∧ w'.cell? ⟨w.heap.size, 9, none⟩ = some (.string te)) (by kernel_rfl) zy (fun hHeld => ?_)
  refine wpAnyH_take (i := 0) (oi := _) (v := .slice Abx lbx.length cbx) rfl (by kernel_rfl) (by kernel_rfl) (by kernel_rfl) (fun _ _ _ h => h) (Or.inl ⟨by rfl, fun w' hS => ?_⟩) hHeld ?_
  · obtain ⟨s0, s1⟩ := hS
    go_simp
  try simp only [Act.put, List.setIfInBounds_toArray, List.set_cons_zero, List.set_cons_succ, List.getElem_toArray, List.getElem_cons_zero]
  refine wpAnyH_take (i := 1) (oi := _) (v := .pointer (some ⟨w.heap.size, 8, none⟩)) rfl (by kernel_rfl) (by kernel_rfl) (by kernel_rfl) (fun _ _ _ h => h) (Or.inl ⟨by rfl, fun w' hS => ?_⟩) hHeld ?_
  · obtain ⟨s0, s1⟩ := hS
    go_simp
  try simp only [Act.put, List.setIfInBounds_toArray, List.set_cons_zero, List.set_cons_succ, List.getElem_toArray, List.getElem_cons_succ, List.getElem_cons_zero]
  refine wpAnyH_take (i := 2) (oi := _) (v := .int .i64 st) rfl (by kernel_rfl) (by kernel_rfl) (by kernel_rfl) (fun _ _ _ h => h) (Or.inl ⟨by rfl, fun w' hS => ?_⟩) hHeld ?_
  · obtain ⟨s0, s1⟩ := hS
    go_simp
  try simp only [Act.put, List.setIfInBounds_toArray, List.set_cons_zero, List.set_cons_succ, List.getElem_toArray, List.getElem_cons_succ, List.getElem_cons_zero]
  refine wpAnyH_take (i := 4) (oi := _) (v := .pointer (some ⟨w.heap.size, 9, none⟩)) rfl (by kernel_rfl) (by kernel_rfl) (by kernel_rfl) (fun _ _ _ h => h) (Or.inl ⟨by rfl, fun w' hS => ?_⟩) hHeld ?_
  · obtain ⟨s0, s1⟩ := hS
    go_simp
  try simp only [Act.put, List.setIfInBounds_toArray, List.set_cons_zero, List.set_cons_succ, List.getElem_toArray, List.getElem_cons_succ, List.getElem_cons_zero]
  refine wpAnyH_take (i := 5) (oi := _) (v := .string te) rfl (by kernel_rfl) (by kernel_rfl) (by kernel_rfl) (fun _ _ _ h => h) (Or.inl ⟨by rfl, fun w' hS => ?_⟩) hHeld ?_
  · obtain ⟨s0, s1⟩ := hS
    go_simp
  try simp only [Act.put, List.setIfInBounds_toArray, List.set_cons_zero, List.set_cons_succ, List.getElem_toArray, List.getElem_cons_succ, List.getElem_cons_zero]
  refine wpAnyH_ready (rs := [3]) (by kernel_rfl) (by simp) (AllReadyH.cons (o := _) rfl (fun K hK => ?_) AllReadyH.nil)
  go_simp
  refine (RefPutNum_calls Abx lbx cbx st wbx.drew hrx.drew (by omega)).mono ?_
  rintro e way ⟨lay, Aay, cay, eay, rfl, oay, bay, _, _⟩
  have Bay := Bbx.drew.below bay Bbx.lt
  have ray := Rd.of_own oay
  have nay : lay.length ≤ lbx.length + 9 := by rw [eay.out, List.length_append]; have := num_length_le 8 (clampN st) (by have := clampN_le st; unfold mostNum at this; omega); omega
  have zay : way.cell? ⟨w.heap.size, 8, none⟩ = some (.int .i64 st) ∧ way.cell? ⟨w.heap.size, 9, none⟩ = some (.string te) := ⟨by rw [Bay.cell]; rfl, by rw [Bay.cell]; rfl⟩
  refine hK.out _ _ zay (fun hHeld => ?_)
  clear hK K
  try simp only [Act.put, List.setIfInBounds_toArray, List.set_cons_zero, List.set_cons_succ, List.getElem_toArray, List.getElem_cons_succ, List.getElem_cons_zero]
  refine wpAnyH_ready (rs := [6]) (by kernel_rfl) (by simp) (AllReadyH.cons (o := _) rfl (fun K hK => ?_) AllReadyH.nil)
  go_simp
  refine (RefPutText_calls Aay lay cay te way ray (by omega)).mono ?_
  rintro e wby ⟨lby, Aby, cby, eby, rfl, oby, bby, jby, kby⟩
  have Bby := Bay.below bby Bay.lt
  have nby : lby.length ≤ lay.length + (9 + 1000) := by rw [eby.out, List.length_append]; have := tx_length (s := te) (by omega); unfold tx at this; omega
  have zby : wby.cell? ⟨w.heap.size, 8, none⟩ = some (.int .i64 st) ∧ wby.cell? ⟨w.heap.size, 9, none⟩ = some (.string te) := ⟨by rw [Bby.cell]; rfl, by rw [Bby.cell]; rfl⟩
  refine hK.out _ _ zby (fun hHeld => ?_)
  clear hK K
  try simp only [Act.put, List.setIfInBounds_toArray, List.set_cons_zero, List.set_cons_succ, List.getElem_toArray, List.getElem_cons_succ, List.getElem_cons_zero]
  refine wpAnyH_take (i := 7) (oi := _) (v := .slice Aby lby.length cby) rfl (by kernel_rfl) (by kernel_rfl) (by kernel_rfl) (fun _ _ _ h => h) (Or.inl ⟨by rfl, fun w' hS => ?_⟩) hHeld ?_
  · obtain ⟨s0, s1⟩ := hS
    go_simp
  try simp only [Act.put, List.setIfInBounds_toArray, List.set_cons_zero, List.set_cons_succ, List.getElem_toArray, List.getElem_cons_succ, List.getElem_cons_zero]
  refine wpAnyH_done (by kernel_rfl) ?_ _
  have bty : Below wbx.heap.size wbx wby := ((Below.refl _ _).drew).trans (Below.trans bay (bby.mono bay.size))
  go_wp2_with fail
  go_ret2
  have hbx := hbw3.next btx
  refine ⟨hbx.next bty, .inl ⟨HC.out, lby, Aby, cby, ?_, rfl, oby.base (Nat.le_trans hbx.size bay.size)⟩⟩
  unfold Hid
  rw [eby.out, eay.out, ebx.out, eax.out, e1.out]
  show _ = [4] ++ (ta.data.toList ++ (tx na ++ (tx wh ++ (num (clampN st) ++ tx te))))
  unfold tx
  simp only [List.append_assoc, List.cons_append, List.nil_append]

set_option maxRecDepth 100000 in
set_option maxHeartbeats 4000000 in
theorem refEncode2_calls (Ad : Option Addr) (d : List UInt8) (cd : Nat) (Ae : Option Addr) (en : List Ent) (ce : Nat) (tr : ByteArray) (Ap : Option Addr) (pa : List ByteArray) (cp : Nat) (ta na wh : ByteArray) (st : Int) (te : ByteArray) (w : World) (hd : Rd w w.heap.size 1 Ad d.length (bc d)) (he : Rd w w.heap.size 3 Ae en.length (ec en)) (hp : Rd w w.heap.size 1 Ap pa.length (pc pa)) (hel : en.length ≤ 140737488355328) (hpl : pa.length ≤ 140737488355328) (hns : Hid (∀ e ∈ en, e.name.size ≤ maxLen)) (HC : Hid (checkB geS (⟨2, d, en, tr, pa, ta, na, wh, st, te⟩ : Go.Dol.Obj) = true)) :
    Calls Try.prog 45 #[.agg #[.int .i64 2, .slice Ad d.length cd, .slice Ae en.length ce, .string tr, .slice Ap pa.length cp, .string ta, .string na, .string wh, .int .i64 st, .string te]] w (RetEnc w (⟨2, d, en, tr, pa, ta, na, wh, st, te⟩ : Go.Dol.Obj)) := by
  have hb0 : Below w.heap.size w (w.alloc (.cells #[.int .i64 2, .slice Ad d.length cd, .slice Ae en.length ce, .string tr, .slice Ap pa.length cp, .string ta, .string na, .string wh, .int .i64 st, .string te] 43)) := (Below.refl _ _).alloc (Nat.le_refl _) _
  have hB0 := Blk.new w 43 (ocells 2 (.slice Ad d.length cd) (.slice Ae en.length ce) tr (.slice Ap pa.length cp) ta na wh st te)
  have hd0 := hd.alive hb0
  have he0 := he.alive hb0
  have hp0 := hp.alive hb0
  have hEC : Hid (errC (checkB geS (⟨2, d, en, tr, pa, ta, na, wh, st, te⟩ : Go.Dol.Obj)) = 0) := Lib.hid (by rw [HC.out]; rfl)
  go_enter Try.func45, Try.ntmps45
  go_wp2_with fail
  refine (refCheck_calls 2 Ad d cd Ae en ce tr Ap pa cp ta na wh st te _ he0 hp0 hel hpl hns).mono ?_
  rintro e w1 ⟨rfl, hb1⟩
  rw [hEC.out]
  have hB1 := hB0.below hb1 hB0.lt
  have hbw := hb0.next hb1
  have hd1 := hd0.alive hb1
  have he1 := he0.alive hb1
  have hp1 := hp0.alive hb1
  have hwr : IntKind.u8.wrap 2 = 2 := by rfl
  have hs1 : w.heap.size < w1.heap.size := hB1.lt
  have hn1 : w.heap.size ≠ w1.heap.size := by omega
  have hn2 : ¬ w1.heap.size = w.heap.size := by omega
  have ho1 : (w1.alloc (.cells #[.int .u8 2] 5)).ownsRow w.heap.size 5 1 (.slice (some ⟨w1.heap.size, 0, none⟩) 1 1) 1 (bc [2]) := World.ownsRow_lit w1 #[.int .u8 2] 1 hbw.size (by decide) rfl
  have hbo : Below w1.heap.size w1 (w1.alloc (.cells #[.int .u8 2] 5)) := (Below.refl _ _).alloc (Nat.le_refl _) _
  have hb2 := hbw.next hbo
  have hB2 := hB1.alloc (.cells #[.int .u8 2] 5)
  have hd2 := hd1.alive hbo
  have he2 := he1.alive hbo
  have hp2 := hp1.alive hbo
  obtain ⟨c0, c1, c2, c3, c4, c5, c6, c7, c8, c9⟩ := obj_cells hB1
  have heb := check2_parts rfl HC.out
  simp only at heb
  have hel4 := (entsB_parts heb).2
  have hen := ents_small heb
  have hcl : Hid (clampN (en.length : Int) = en.length) := by unfold Hid clampN; omega
  clear heb
  go_wp2_with fail
  refine (RefPutNum_calls _ [2] 1 _ _ (Rd.of_own ho1) (by decide)).mono ?_
  rintro e w4 ⟨l2, A2, cc2, e2, rfl, ho4, hb4, i3, i4⟩
  have hB4 := hB2.below hb4 hB2.lt
  have hbw4 := hb2.next hb4
  have ho4' := ho4.base hb2.size
  obtain ⟨T, hTe⟩ : ∃ T, T = [2] ++ num en.length := ⟨_, rfl⟩
  have hT : Hid (l2 = T ++ (en.take 0).flatMap entB) := by
    unfold Hid
    rw [e2.out, hcl.out, hTe]
    simp
  have hTl : T.length ≤ 10 := by
    rw [hTe]
    simp only [List.length_append, List.length_singleton]
    have := num_length_le 8 en.length (by omega)
    omega
  have HTE := Lib.hid hTe
  obtain ⟨d0, d1, d2, d3, d4, d5, d6, d7, d8, d9⟩ := obj_cells hB4
  clear c0 c1 c2 c3 c4 c5 c6 c7 c8 c9 hTe e2
  go_wp2_with fail
  clear d0 d1 d2 d3 d4 d5 d6 d7 d8 d9
  go_loopw [4, 5] (fun b i wr => REnts w.heap.size T en (ocells 2 (.slice Ad d.length cd) (.slice Ae en.length ce) tr (.slice Ap pa.length cp) ta na wh st te) w b i wr) (fun _ i _ => en.length - (intOf i).toNat)
  case atStart => exact ⟨0, l2, A2, cc2, rfl, rfl, Nat.zero_le _, hT, ho4', i3, i4, hB4, hbw4⟩
  case round =>
    clear hT ho4' hB4 hbw4 i3 i4 ho4 hb4
    obtain ⟨k', l3, A3, c3, rfl, rfl, hk, hT, hown, i3, i4, hB, hbel⟩ := hrel
    obtain ⟨k0, k1, k2, k3, k4, k5, k6, k7, k8, k9⟩ := obj_cells hB
    have hs := hbel.size
    have f1 : IntKind.i64.wrap ((k' : Int) + 1) = (k' : Int) + 1 := IntWalk.i64_in _ (by omega)
    by_cases h1 : k' < en.length
    · have d1 : decide ((k' : Int) < (en.length : Int)) = true := decide_eq_true (by omega)
      have d1' : (k' : Int) < (en.length : Int) := by omega
      have hk0 : (0 : Int) ≤ (k' : Int) := by omega
      have hlen1 : en.length ≤ 9223372036854775807 := by omega
      have hrw := he.below hbel
      obtain ⟨bb, off, rfl, hbb, hcell⟩ := hrw.at_ (by omega)
      obtain ⟨p0, p1, p2⟩ := ec_get h1
      have q0 := hcell _ _ p0
      have q1 : wr.cell? ⟨bb, off + k' * 3 + 1, none⟩ = _ := hcell _ _ p1
      have q2 : wr.cell? ⟨bb, off + k' * 3 + 2, none⟩ = _ := hcell _ _ p2
      have hpart := ent_part h1
      have hel' := entB_length en[k']
      obtain ⟨x, hx⟩ : ∃ x, x = en[k'] := ⟨_, rfl⟩
      have hsucc : Hid ((en.take (k' + 1)).flatMap entB = (en.take k').flatMap entB ++ entB x) := by unfold Hid; rw [entsN_succ h1, hx]
      rw [← hx] at q0 q1 q2 hpart hel'
      have hl3 : l3.length + x.name.size + 1 + x.id.size ≤ T.length + (en.flatMap entB).length := by
        have h6 := congrArg List.length hT.out
        rw [List.length_append] at h6
        omega
      obtain ⟨x0, x1, x2⟩ := x
      simp only at q0 q1 q2 hl3
      clear hx hcell p0 p1 p2 hpart hel'
      go_wp2_with fail
      refine (RefPutText_calls A3 l3 c3 x0 wr (Rd.of_own hown) (by omega)).mono ?_
      rintro e w6 ⟨l6, A6, c6, e6, rfl, ho6, hb6, i5, i6⟩
      have hl6 : l6.length ≤ l3.length + 9 + x0.size := by rw [e6.out, List.length_append]; have := tx_length (s := x0) (by omega); unfold tx at this; omega
      have hB6 := hB.below hb6 hB.lt
      have hbb' : bb < wr.heap.size := by omega
      have q1' : w6.cell? ⟨bb, off + k' * 3 + 1, none⟩ = some (.bool x1) := (hb6.cell (p := ⟨bb, _, none⟩) hbb').trans q1
      have q2' : w6.cell? ⟨bb, off + k' * 3 + 2, none⟩ = some (.string x2) := (hb6.cell (p := ⟨bb, _, none⟩) hbb').trans q2
      clear k0 k1 k2 k3 k4 k5 k6 k7 k8 k9 q0 q1 q2
      obtain ⟨k0, k1, k2, k3, k4, k5, k6, k7, k8, k9⟩ := obj_cells hB6
      cases x1 with
      | true =>
        go_wp2_with (at_builtin; refine push8 rfl (.tmp 69) (.tmp 71) rfl wr.heap.size _ l6.length l6 rfl ho6 rfl (by decide) (by decide) (by omega) hb6.size ?_)
        intro d7 l7 A7 c7 w7 ed7 e7 ho7 hb7 hg7 _ i7 i8
        have hb67 := hb6.trans hb7
        have hB7 := hB6.grown hg7 (fun e => own_ne ho6 hB6 (by decide) e.symm)
        have q2'' : w7.cell? ⟨bb, off + k' * 3 + 2, none⟩ = some (.string x2) := (hb7.cell (p := ⟨bb, _, none⟩) hbb').trans q2'
        have hl7 : l7.length ≤ l6.length + 1 := by rw [e7.out, List.length_append]; exact Nat.le_refl _
        clear k0 k1 k2 k3 k4 k5 k6 k7 k8 k9
        obtain ⟨k0, k1, k2, k3, k4, k5, k6, k7, k8, k9⟩ := obj_cells hB7
        go_wp2_with (at_builtin; refine app8s rfl (.tmp 73) (.tmp 79) rfl wr.heap.size _ l7.length l7 rfl ho7 x2 rfl (by omega) hb67.size ?_)
        intro l8 A8 c8 w8 e8 ho8 hb8 hg8 i9 i10
        go_wp2_with fail
        refine ⟨⟨k' + 1, l8, A8, c8, by go_num, rfl, h1, ?_, ho8.base hs, i9, i10, hB7.grown hg8 (fun e => own_ne ho7 hB7 (by decide) e.symm), hbel.trans ((hb67.trans hb8).mono hs)⟩, by simp [intOf]; omega⟩
        have hd : d7 = 1 := byte_of (n := 1) ed7 rfl
        unfold Hid
        rw [e8.out, e7.out, e6.out, hT.out, hsucc.out, hd]
        unfold entB tx
        simp only [List.append_assoc, List.cons_append, List.nil_append, if_true]
      | false =>
        go_wp2_with (at_builtin; refine push8 rfl (.tmp 69) (.tmp 71) rfl wr.heap.size _ l6.length l6 rfl ho6 rfl (by decide) (by decide) (by omega) hb6.size ?_)
        intro d7 l7 A7 c7 w7 ed7 e7 ho7 hb7 hg7 _ i7 i8
        have hb67 := hb6.trans hb7
        have hB7 := hB6.grown hg7 (fun e => own_ne ho6 hB6 (by decide) e.symm)
        have q2'' : w7.cell? ⟨bb, off + k' * 3 + 2, none⟩ = some (.string x2) := (hb7.cell (p := ⟨bb, _, none⟩) hbb').trans q2'
        have hl7 : l7.length ≤ l6.length + 1 := by rw [e7.out, List.length_append]; exact Nat.le_refl _
        clear k0 k1 k2 k3 k4 k5 k6 k7 k8 k9
        obtain ⟨k0, k1, k2, k3, k4, k5, k6, k7, k8, k9⟩ := obj_cells hB7
        go_wp2_with (at_builtin; refine app8s rfl (.tmp 73) (.tmp 79) rfl wr.heap.size _ l7.length l7 rfl ho7 x2 rfl (by omega) hb67.size ?_)
        intro l8 A8 c8 w8 e8 ho8 hb8 hg8 i9 i10
        go_wp2_with fail
        refine ⟨⟨k' + 1, l8, A8, c8, by go_num, rfl, h1, ?_, ho8.base hs, i9, i10, hB7.grown hg8 (fun e => own_ne ho7 hB7 (by decide) e.symm), hbel.trans ((hb67.trans hb8).mono hs)⟩, by simp [intOf]; omega⟩
        have hd : d7 = 0 := UInt8.toNat_inj.1 ed7.out
        unfold Hid
        rw [e8.out, e7.out, e6.out, hT.out, hsucc.out, hd]
        unfold entB tx
        simp [List.append_assoc]
    · have d1 : decide ((k' : Int) < (en.length : Int)) = false := decide_eq_false (by omega)
      have d1' : ¬ (k' : Int) < (en.length : Int) := by omega
      have hkl : k' = en.length := by omega
      have hT2 : Hid (l3 = encO (⟨2, d, en, tr, pa, ta, na, wh, st, te⟩ : Go.Dol.Obj)) := by
        unfold Hid
        rw [hT.out, hkl, List.take_length, HTE.out]
        show _ = [2] ++ entsL en
        unfold entsL
        rw [List.append_assoc]
      clear hkl
      go_wp2_with fail
      go_ret2
      exact ⟨hbel, .inl ⟨HC.out, l3, A3, c3, hT2, rfl, hown⟩⟩

set_option maxRecDepth 100000 in
set_option maxHeartbeats 4000000 in
theorem refEncode_wrong (k : Int) (Ad : Option Addr) (d : List UInt8) (cd : Nat) (Ae : Option Addr) (en : List Ent) (ce : Nat) (tr : ByteArray) (Ap : Option Addr) (pa : List ByteArray) (cp : Nat) (ta na wh : ByteArray) (st : Int) (te : ByteArray) (w : World) (hd : Rd w w.heap.size 1 Ad d.length (bc d)) (he : Rd w w.heap.size 3 Ae en.length (ec en)) (hp : Rd w w.heap.size 1 Ap pa.length (pc pa)) (hel : en.length ≤ 140737488355328) (hpl : pa.length ≤ 140737488355328) (hns : Hid (∀ e ∈ en, e.name.size ≤ maxLen)) (HC : Hid (checkB geS (⟨k, d, en, tr, pa, ta, na, wh, st, te⟩ : Go.Dol.Obj) = false)) :
    Calls Try.prog 45 #[.agg #[.int .i64 k, .slice Ad d.length cd, .slice Ae en.length ce, .string tr, .slice Ap pa.length cp, .string ta, .string na, .string wh, .int .i64 st, .string te]] w fun e w' => e = .returned (.tuple #[.slice none 0 0, .int .i64 1]) ∧ Below w.heap.size w w' := by
  have hb0 : Below w.heap.size w (w.alloc (.cells #[.int .i64 k, .slice Ad d.length cd, .slice Ae en.length ce, .string tr, .slice Ap pa.length cp, .string ta, .string na, .string wh, .int .i64 st, .string te] 43)) := (Below.refl _ _).alloc (Nat.le_refl _) _
  have hB0 := Blk.new w 43 (ocells k (.slice Ad d.length cd) (.slice Ae en.length ce) tr (.slice Ap pa.length cp) ta na wh st te)
  have hd0 := hd.alive hb0
  have he0 := he.alive hb0
  have hp0 := hp.alive hb0
  have hEC : Hid (errC (checkB geS (⟨k, d, en, tr, pa, ta, na, wh, st, te⟩ : Go.Dol.Obj)) = 1) := Lib.hid (by rw [HC.out]; rfl)
  go_enter Try.func45, Try.ntmps45
  go_wp2_with fail
  refine (refCheck_calls k Ad d cd Ae en ce tr Ap pa cp ta na wh st te _ he0 hp0 hel hpl hns).mono ?_
  rintro e w1 ⟨rfl, hb1⟩
  rw [hEC.out]
  have hB1 := hB0.below hb1 hB0.lt
  have hbw := hb0.next hb1
  go_wp2_with fail
  go_ret2
  exact ⟨rfl, hbw⟩

theorem refEncode_calls (k : Int) (Ad : Option Addr) (d : List UInt8) (cd : Nat) (Ae : Option Addr) (en : List Ent) (ce : Nat) (tr : ByteArray) (Ap : Option Addr) (pa : List ByteArray) (cp : Nat) (ta na wh : ByteArray) (st : Int) (te : ByteArray) (w : World) (hd : Rd w w.heap.size 1 Ad d.length (bc d)) (he : Rd w w.heap.size 3 Ae en.length (ec en)) (hp : Rd w w.heap.size 1 Ap pa.length (pc pa)) (hel : en.length ≤ 140737488355328) (hpl : pa.length ≤ 140737488355328) (hns : Hid (∀ e ∈ en, e.name.size ≤ maxLen)) :
    Calls Try.prog 45 #[.agg #[.int .i64 k, .slice Ad d.length cd, .slice Ae en.length ce, .string tr, .slice Ap pa.length cp, .string ta, .string na, .string wh, .int .i64 st, .string te]] w (RetEnc w (⟨k, d, en, tr, pa, ta, na, wh, st, te⟩ : Go.Dol.Obj)) := by
  cases hc : checkB geS (⟨k, d, en, tr, pa, ta, na, wh, st, te⟩ : Go.Dol.Obj) with
  | false => exact (refEncode_wrong k Ad d cd Ae en ce tr Ap pa cp ta na wh st te w hd he hp hel hpl hns (Lib.hid hc)).mono fun e w' h => ⟨h.2, .inr ⟨hc, h.1⟩⟩
  | true =>
    rcases check_kind hc with h | h | h | h

    · have h' : k = 1 := h
      subst h'
      exact refEncode1_calls Ad d cd Ae en ce tr Ap pa cp ta na wh st te w hd he hp hel hpl hns (Lib.hid hc)
    · have h' : k = 2 := h
      subst h'
      exact refEncode2_calls Ad d cd Ae en ce tr Ap pa cp ta na wh st te w hd he hp hel hpl hns (Lib.hid hc)
    · have h' : k = 3 := h
      subst h'
      exact refEncode3_calls Ad d cd Ae en ce tr Ap pa cp ta na wh st te w hd he hp hel hpl hns (Lib.hid hc)
    · have h' : k = 4 := h
      subst h'
      exact refEncode4_calls Ad d cd Ae en ce tr Ap pa cp ta na wh st te w hd he hp hel hpl hns (Lib.hid hc)
end Go.Proofs.Ytcefbhmmijmefaa
