/- The walk of the program's Bases. Conditions: fewer than 2^39 texts are to be looked at; ids that memory holds. -/
import Derived.Test.YteeajmgiamdfdaaBasF
import Derived.Test.YteeajmgiamdfdaaClo
import Derived.Deep.RegionHeld3
namespace Go.Proofs.Yteeajmgiamdfdaa
open Go.RowKit Go.Dol
set_option linter.unusedVariables false
/-- The rounds that ask what is reached from each. -/
def FroRel (L : List Nd) (cm : List ByteArray) (v0 : World) (fb BF : Nat) (i : Value) (wr : World) : Prop :=
  ∃ k : Nat, i = .int .i64 k ∧ k ≤ cm.length ∧ FromOk L wr fb (cm.take k) ∧ wr.cell? ⟨BF, 0, none⟩ = some (.map (some fb)) ∧ Below v0.heap.size v0 wr
theorem FromOk.put {L : List Nd} {w w' : World} {fb b : Nat} {ids : List ByteArray} {x : ByteArray} {mt : List ByteArray} {al : List (Value × Value)} (hM : MapL Try.prog 9 w' fb al) {al0 : List (Value × Value)} (h0 : MPut al0 (.string x) (.map (some b)) al) (hg : w.grownBy w' (some fb))
    (h1 : ∀ y ∈ ids, ∃ p ∈ al0, p.1 = Value.string y) (h2 : ∀ p ∈ al0, ∃ (x : ByteArray) (b : Nat) (mt : List ByteArray), p = (.string x, .map (some b)) ∧ fb < b ∧ MapL Try.prog 9 w b (mtE mt) ∧ ∀ y, y ∈ mt ↔ Rch L [x] y)
    (hb : fb < b) (hm : MapL Try.prog 9 w b (mtE mt)) (hy : ∀ y, y ∈ mt ↔ Rch L [x] y) : FromOk L w' fb (ids ++ [x]) := by
  have hkeys : ∀ p ∈ al0, ∃ q ∈ al, q.1 = p.1 := fun p hp => by
    rcases h0 with ⟨_, rfl⟩ | ⟨l, r, v0, rfl, rfl⟩
    · exact ⟨p, by simp [hp], rfl⟩
    · rcases List.mem_append.1 hp with h | h
      · exact ⟨p, by simp [h], rfl⟩
      · rcases List.mem_cons.1 h with h | h
        · exact ⟨_, List.mem_append.2 (.inr (List.mem_cons_self ..)), by rw [h]⟩
        · exact ⟨p, by simp [h], rfl⟩
  refine ⟨al, hM, fun y hyi => ?_, fun p hp => ?_⟩
  · rcases List.mem_append.1 hyi with h | h
    · obtain ⟨p, hp, e⟩ := h1 y h
      obtain ⟨q, hq, e2⟩ := hkeys p hp
      exact ⟨q, hq, e2.trans e⟩
    · rw [List.mem_singleton.1 h]
      exact ⟨_, h0.mem, rfl⟩
  · rcases h0.cases hp with rfl | h
    · exact ⟨x, b, mt, rfl, hb, hm.grown hg (fun e => by injection e with e; omega), hy⟩
    · obtain ⟨x', b', mt', e, hlt, hm', hy'⟩ := h2 p h
      exact ⟨x', b', mt', e, hlt, hm'.grown hg (fun e => by injection e with e; omega), hy'⟩
theorem NdsOk.known {w : World} {A : Option Addr} {l : List NdA} (h : NdsOk w A l) {x : ByteArray} (hx : (parF (l.map NdA.f) x).isSome = true) : x.size ≤ maxLen := by
  refine Decidable.byContradiction fun hn => ?_
  have : parF (l.map NdA.f) x = none := par_none.2 fun y hy e => hn (by rw [← e]; exact h.ids y hy)
  rw [this] at hx
  cases hx
set_option maxRecDepth 100000 in
set_option maxHeartbeats 8000000 in
theorem Bases_calls (A : Option Addr) (l : List NdA) (c : Nat) (a b : ByteArray) (w : World) (h : NdsOk w A l) (ha : a.size ≤ maxLen) (hbs : b.size ≤ maxLen) (hl : 1 + room (l.map NdA.f) [] [] ≤ 549755813888) :
    Calls Try.prog 10 #[.slice A l.length c, .string a, .string b] w (RetIds w (BaseP (l.map NdA.f) a b)) := by
  have HKn := Lib.hid (know_calls A l c w h.rd h.len h.ids)
  have hmm := @run_makeMap Try.prog
  have HMM := Lib.hid hmm
  clear hmm
  have HR : Hid (∀ (kb : Nat) (x : ByteArray) (V : World), x.size ≤ maxLen → NdsOk V A l → Kn V kb l → Calls Try.prog 23 #[.map (some kb), .slice (some ⟨V.heap.size, 0, none⟩) 1 1] (V.alloc (.cells #[.string x] 9)) fun e w' => ∃ mt, e = .returned (.map (some (V.heap.size + 1))) ∧ MapL Try.prog 9 w' (V.heap.size + 1) (mtE mt) ∧ (∀ y, y ∈ mt ↔ Rch (l.map NdA.f) [x] y) ∧ Below V.heap.size V w' ∧ mt.length ≤ 549755813888) := fun kb x V hx hV hK => by
    have hbx : Below V.heap.size V (V.alloc (.cells #[.string x] 9)) := (Below.refl _ _).alloc (Nat.le_refl _) _
    have hn := Rd.new1 V 9 (.string x)
    have hV1 := hV.below hbx
    have hK1 : Kn (V.alloc (.cells #[.string x] 9)) kb l := by obtain ⟨al, hM, hL⟩ := hK; exact ⟨al, hM.belowW hbx, hL⟩
    refine (reached_calls l kb (some ⟨V.heap.size, 0, none⟩) [x] 1 (V.alloc (.cells #[.string x] 9)) hK1 hV1.ps (by simpa [pc] using hn) (by simpa using hl) (fun y hy => by rw [List.mem_singleton.1 hy]; exact hx) hV1.par).mono ?_
    rintro e w' ⟨mt, rfl, hM, hmt, hb, hml⟩
    rw [World.size_alloc] at hM hb
    exact ⟨mt, by rw [World.size_alloc], hM, hmt, hbx.next (by rw [World.size_alloc]; exact hb), hml⟩
  go_enter Try.func10, Try.ntmps10
  go_wp2_with fail
  refine HKn.out.mono ?_
  rintro e w1 ⟨kb, rfl, hK, hkb, hb1⟩
  have hkx : kb < w1.heap.size := by obtain ⟨al, hM, _⟩ := hK; exact hM.lt
  have h1 := h.below hb1
  clear HKn
  go_wp2_with fail
  refine (HR.out kb a w1 ha h1 hK).mono ?_
  rintro e w2 ⟨mx, rfl, hMx, hmx, hb2, hmxl⟩
  have h2 := h1.below hb2
  have hK2 : Kn w2 kb l := by obtain ⟨al, hM, hL⟩ := hK; exact ⟨al, hM.belowW hb2, hL⟩
  have hb02 := hb1.next hb2
  have hs1 := hb1.size
  clear hb1 hb2 h1 hK
  go_wp2_with fail
  refine (HR.out kb b w2 hbs h2 hK2).mono ?_
  rintro e w3 ⟨my, rfl, hMy, hmy, hb3, hmyl⟩
  have h3 := h2.below hb3
  have hK3 : Kn w3 kb l := by obtain ⟨al, hM, hL⟩ := hK2; exact ⟨al, hM.belowW hb3, hL⟩
  have hMx3 := hMx.belowW hb3
  have hb03 := hb02.next hb3
  have hs2 := hb02.size
  have hxy : w1.heap.size + 1 < w2.heap.size := hMx.lt
  have hyl := hMy.lt
  clear hb02 hb3 h2 hK2 hMx
  have hb4 : Below w3.heap.size w3 (w3.alloc (.cells #[.map (some (w2.heap.size + 1))] 49)) := (Below.refl _ _).alloc (Nat.le_refl _) _
  have hBy := Blk.new w3 49 [.map (some (w2.heap.size + 1))]
  have hMx4 := hMx3.belowW hb4
  have hMy4 := hMy.belowW hb4
  have hs3 := hb03.size
  have eg1 := enters_of Try.func25 (by kernel_rfl) rfl
  have hD := mapsDel (fun s => !decide (s ∈ my)) 25 #[.pointer (some ⟨w3.heap.size, 0, none⟩)] (w1.heap.size + 1) mx _ hMx4 hmxl eg1 (fun W s val hW hsz => by
    have hc : W.cell? ⟨w3.heap.size, 0, none⟩ = some (.map (some (w2.heap.size + 1))) := by
      have h1 := hBy.grown hW (fun e => by injection e with e; omega)
      exact (h1.cell 0).trans rfl
    refine (bases1_calls (w2.heap.size + 1) w3.heap.size my W hc (hMy4.grown hW (fun e => by injection e with e; omega)) s hsz val).mono ?_
    rintro e w' ⟨rfl, rfl⟩
    exact ⟨rfl, World.grownBy.refl _ _⟩)
  have HD := Lib.hid hD
  have HMX := Lib.hid hmx
  have HMY := Lib.hid hmy
  have HND := Lib.hid (mtE_nodup hMx3)
  clear hD hmx hmy hMy hMy4 hMx3 hMx4 hBy eg1
  go_wp2_with fail
  refine HD.out.mono ?_
  rintro e w5 ⟨rfl, ⟨D, hown, hperm⟩, hg5⟩
  have hb05 : Below w.heap.size w w5 := ((hb03.trans (hb4.mono hs3))).grown hg5 (Nat.le_trans hs3 hb4.size) (fun j hj => by injection hj with hj; omega)
  have hKs := keysMet (some (w1.heap.size + 1)) w5
  have hSo := sortedOwn hown hmxl hperm (List.Nodup.sublist List.filter_sublist HND.out) (Nat.le_trans (List.length_filter_le _ _) hmxl)
  have HKs := Lib.hid hKs
  have HSo := Lib.hid hSo
  have h5 := h.below hb05
  have hK5 : Kn w5 kb l := by
    obtain ⟨al, hM, hL⟩ := hK3
    have hM4 := hM.belowW hb4
    exact ⟨al, hM4.grown hg5 (fun e => by injection e with e; omega), hL⟩
  clear hKs hSo hown hperm hg5 hb4 hb03 h3 hK3 HD
  go_wp2_with fail
  refine HKs.out.mono ?_
  rintro e w5' ⟨rfl, rfl⟩
  go_wp2_with fail
  refine HSo.out.mono ?_
  rintro e w6 ⟨cm, Ac, cc, rfl, hst, hmem, hcl, ho, hb6⟩
  have hb06 := hb05.next hb6
  have hcm : ∀ x, x ∈ cm ↔ Rch (l.map NdA.f) [a] x ∧ Rch (l.map NdA.f) [b] x := fun x => by
    refine (hmem.out x).trans ?_
    show x ∈ mx.filter (fun s => !!decide (s ∈ my)) ↔ _
    rw [List.mem_filter, HMX.out, ← HMY.out]
    simp
  obtain ⟨ht1, ht2⟩ := bases_ids hst.out hcm
  have HT1 := Lib.hid ht1
  have HT2 := Lib.hid ht2
  have hz : Hid (∀ x ∈ cm, x.size ≤ maxLen) := fun x hx => h.known (((hcm x).1 hx).1.known)
  have h6 := h.below hb06
  have hK6 : Kn w6 kb l := by obtain ⟨al, hM, hL⟩ := hK5; exact ⟨al, hM.belowW hb6, hL⟩
  have hrc := Rd.of_own ho
  have hs6 := hb06.size
  clear ht1 ht2 hcm hst hmem HMX HMY HND HKs HSo ho hb6 hb05 h5 hK5 hxy hyl hs1 hs2 hs3
  -- the boxes of common and of from
  have hmm := HMM.out
  have hb7 : Below w6.heap.size w6 (w6.alloc (.cells #[.slice Ac cm.length cc] 26)) := (Below.refl _ _).alloc (Nat.le_refl _) _
  have hBc := Blk.new w6 26 [.slice Ac cm.length cc]
  go_wp2_with fail
  clear hmm

  obtain ⟨W7, hW7⟩ : ∃ W, W = w6.alloc (.cells #[.slice Ac cm.length cc] 26) := ⟨_, rfl⟩
  rw [← hW7] at hb7 hBc
  have hz7 : W7.heap.size = w6.heap.size + 1 := by rw [hW7, World.size_alloc]
  have hM9 := (MapL.new (P := Try.prog) (k := 9) W7).alloc (.cells #[.map (some (w6.heap.size + 1))] 57)
  have hB9 := Blk.new (W7.alloc (.map #[] 0)) 57 [.map (some (w6.heap.size + 1))]
  have hb9 : Below W7.heap.size W7 ((W7.alloc (.map #[] 0)).alloc (.cells #[.map (some (w6.heap.size + 1))] 57)) := ((Below.refl _ _).alloc (Nat.le_refl _) _).alloc (by simp) _
  rw [World.size_alloc, hz7] at hB9
  rw [hz7] at hM9
  have hcB9 := hB9.cell 0
  obtain ⟨W9, hW9⟩ : ∃ W, W = (W7.alloc (.map #[] 0)).alloc (.cells #[.map (some (w6.heap.size + 1))] 57) := ⟨_, rfl⟩
  have hst : FroRel (l.map NdA.f) cm W7 (w6.heap.size + 1) (w6.heap.size + 1 + 1) (.int .i64 0) W9 := by
    rw [hW9]
    exact ⟨0, rfl, Nat.zero_le _, ⟨[], hM9, (fun x hx => (List.not_mem_nil hx).elim), fun p hp => (List.not_mem_nil hp).elim⟩, hcB9, hb9⟩
  have HST := Lib.hid hst
  have hrc7 := (hrc.belowW hb7 (Nat.le_refl _)).more hb7.size
  have h7 := h6.below hb7
  have hK7 : Kn W7 kb l := by obtain ⟨al, hM, hL⟩ := hK6; exact ⟨al, hM.belowW hb7, hL⟩
  have hcBc : W7.cell? ⟨w6.heap.size, 0, none⟩ = some (.slice Ac cm.length cc) := (hBc.cell 0).trans rfl
  have hb07 := hb06.next hb7
  have hs7 := hb07.size
  rw [← hW7, ← hW9]
  clear hst hM9 hB9 hb9 hcB9 hW9 hrc h6 hK6 hb06 hBc hW7 hb7 hs6
  go_loopw [33] (fun i wr => FroRel (l.map NdA.f) cm W7 (w6.heap.size + 1) (w6.heap.size + 1 + 1) i wr) (fun i _ => cm.length - (intOf i).toNat)
  case atStart => exact HST.out
  case round =>
    clear HST
    obtain ⟨k, rfl, hk, hF, hbF, hb⟩ := hrel
    have hs := hb.size
    have f1 : IntKind.i64.wrap ((k : Int) + 1) = (k : Int) + 1 := IntWalk.i64_in _ (by omega)
    by_cases hlt : k < cm.length
    · have hd : decide ((k : Int) < (cm.length : Int)) = true := decide_eq_true (by omega)
      have hd' : (k : Int) < (cm.length : Int) := by omega
      have hk0 : (0 : Int) ≤ (k : Int) := by omega
      obtain ⟨x, hx⟩ : ∃ x, cm[k]? = some x := ⟨cm[k], List.getElem?_eq_getElem hlt⟩
      have hrw := hrc7.belowW hb (Nat.le_refl _)
      obtain ⟨bl, ol, rfl, hbl, hcl0⟩ := hrw.at_ (by omega)
      have cx : wr.cell? ⟨bl, ol + k, none⟩ = some (.string x) := hcl0 k _ (by simp [pc, hx])
      have hxs := hz.out x (List.mem_of_getElem? hx)
      obtain ⟨kl, hkey⟩ := str_key x hxs
      have hnext : cm.take (k + 1) = cm.take k ++ [x] := by rw [List.take_add_one, hx]; rfl
      have HX := Lib.hid hnext
      have h8 := (h7.below hb).below ((Below.refl _ wr).drew)
      have hK8 : Kn wr.drew kb l := by obtain ⟨al, hM, hL⟩ := hK7; exact ⟨al, (hM.belowW hb).drew, hL⟩
      have hR8 := Lib.hid (HR.out kb x wr.drew hxs h8 hK8)
      have hF8 : FromOk (l.map NdA.f) wr.drew (w6.heap.size + 1) (cm.take k) := hF.belowW ((Below.refl _ wr).drew)
      have hfl : w6.heap.size + 1 < wr.heap.size := by obtain ⟨al, hM, _⟩ := hF; exact hM.lt
      have hb8 := hb.drew
      clear hx hcl0 hrw hnext hF h8 hK8
      go_wp2_with fail
      refine wp_region_held_drew (S := fun W => W.cell? ⟨w6.heap.size + 1 + 1, 0, none⟩ = some (.map (some (w6.heap.size + 1)))) (by kernel_rfl) (hbF) (fun hHeld => ?_)
      refine wpAnyH_take (i := 0) (oi := _) (v := .map (some (w6.heap.size + 1))) rfl (by kernel_rfl) (by kernel_rfl) (by kernel_rfl) (fun _ _ _ h => h) (Or.inl ⟨by rfl, fun w9 hS => ?_⟩) hHeld ?_
      · have s0 := hS
        go_simp
      try simp only [Act.put, List.setIfInBounds_toArray, List.set_cons_zero, List.set_cons_succ, List.getElem_toArray, List.getElem_cons_zero]
      refine wpAnyH_take (i := 1) (oi := _) (v := .string x) rfl (by kernel_rfl) (by kernel_rfl) (by kernel_rfl) (fun _ _ _ h => h) (Or.inl ⟨by rfl, fun w9 hS => ?_⟩) hHeld ?_
      · have s0 := hS
        go_simp
      try simp only [Act.put, List.setIfInBounds_toArray, List.set_cons_zero, List.set_cons_succ, List.getElem_toArray, List.getElem_cons_succ, List.getElem_cons_zero]
      refine wpAnyH_take (i := 2) (oi := _) (v := .map (some kb)) rfl (by kernel_rfl) (by kernel_rfl) (by kernel_rfl) (fun _ _ _ h => h) (Or.inl ⟨by rfl, fun w9 hS => ?_⟩) hHeld ?_
      · have s0 := hS
        go_simp
      try simp only [Act.put, List.setIfInBounds_toArray, List.set_cons_zero, List.set_cons_succ, List.getElem_toArray, List.getElem_cons_succ, List.getElem_cons_zero]
      refine wpAnyH_take (i := 3) (oi := _) (v := .string x) rfl (by kernel_rfl) (by kernel_rfl) (by kernel_rfl) (fun _ _ _ h => h) (Or.inl ⟨by rfl, fun w9 hS => ?_⟩) hHeld ?_
      · have s0 := hS
        go_simp
      try simp only [Act.put, List.setIfInBounds_toArray, List.set_cons_zero, List.set_cons_succ, List.getElem_toArray, List.getElem_cons_succ, List.getElem_cons_zero]
      refine wpAnyH_ready (rs := [4]) (by kernel_rfl) (by simp) (AllReadyH.cons (o := _) rfl (fun K hK => ?_) AllReadyH.nil)
      go_simp
      refine hK.out _ _ (cell_keep hbF _) (fun hHeld => ?_)
      clear hK K
      try simp only [Act.put, List.setIfInBounds_toArray, List.set_cons_zero, List.set_cons_succ, List.getElem_toArray, List.getElem_cons_succ, List.getElem_cons_zero]
      refine wpAnyH_ready (rs := [5]) (by kernel_rfl) (by simp) (AllReadyH.cons (o := _) rfl (fun K hK => ?_) AllReadyH.nil)
      go_simp
      refine hR8.out.mono ?_
      rintro e w9 ⟨mt, rfl, hMt, hmt, hb9, hmtl⟩
      have hMt2 : MapL Try.prog 9 w9 (wr.heap.size + 1) (mtE mt) := hMt
      have hF9 := hF8.belowW hb9
      have hbF9 : w9.cell? ⟨w6.heap.size + 1 + 1, 0, none⟩ = some (.map (some (w6.heap.size + 1))) := (hb9.cell (p := ⟨w6.heap.size + 1 + 1, 0, none⟩) (World.block_lt_of_cell? wr _ hbF)).trans hbF
      have hb79 := hb8.next hb9
      have HMT := Lib.hid hmt
      obtain ⟨al9, hM9, h91, h92⟩ := hF9
      obtain ⟨al10, w10, hup, hM10, hput, hg10⟩ := hM9.update str_law Try.underlying57 hkey (.map (some (wr.heap.size + 1)))
      have hF10 : FromOk (l.map NdA.f) w10 (w6.heap.size + 1) (cm.take (k + 1)) := by rw [HX.out]; exact FromOk.put hM10 hput hg10 h91 h92 (by omega) hMt2 HMT.out
      have hbF10 : w10.cell? ⟨w6.heap.size + 1 + 1, 0, none⟩ = some (.map (some (w6.heap.size + 1))) := by rw [World.cell?_of_block (w := w9) (hg10.block _ (World.block_lt_of_cell? w9 _ hbF9) (fun e => by simp at e))]; exact hbF9
      have hb710 := hb79.grown hg10 (Nat.le_trans hs (Nat.le_trans (Nat.le_refl _) hb9.size)) (fun j hj => by injection hj with hj; omega)
      clear hmt h91 h92 hput hg10 hM9 hMt hMt2 hM10
      refine hK.out _ _ hbF9 (fun hHeld => ?_)
      clear hK K
      try simp only [Act.put, List.setIfInBounds_toArray, List.set_cons_zero, List.set_cons_succ, List.getElem_toArray, List.getElem_cons_succ, List.getElem_cons_zero]
      refine wpAnyH_ready (rs := [6]) (by kernel_rfl) (by simp) (AllReadyH.cons (o := _) rfl (fun K hK => ?_) AllReadyH.nil)
      go_simp
      refine hK.out _ _ hbF10 (fun hHeld => ?_)
      clear hK K
      try simp only [Act.put, List.setIfInBounds_toArray, List.set_cons_zero, List.set_cons_succ, List.getElem_toArray, List.getElem_cons_succ, List.getElem_cons_zero]
      refine wpAnyH_done (by kernel_rfl) ?_ _
      go_wp2_with fail
      exact ⟨⟨k + 1, by go_num, by omega, hF10, hbF10, hb710⟩, by simp [intOf]; omega⟩
    · have hd : decide ((k : Int) < (cm.length : Int)) = false := decide_eq_false (by omega)
      have hkf : cm.take k = cm := List.take_of_length_le (by omega)
      rw [hkf] at hF
      have hcBr : wr.cell? ⟨w6.heap.size, 0, none⟩ = some (.slice Ac cm.length cc) := (hb.cell (p := ⟨w6.heap.size, 0, none⟩) (World.block_lt_of_cell? W7 _ hcBc)).trans hcBc
      have hrw := (hrc7.belowW hb (Nat.le_refl _)).more hs
      have HCl := Lib.hid (cloneT_calls Ac cm cc wr hrw (by omega))
      clear hkf
      go_wp2_with fail
      refine HCl.out.mono ?_
      rintro e w11 ⟨ys, A11, c11, hys, rfl, ho11, hb11⟩
      obtain rfl : ys = cm := hys.out
      have eg2 := enters_of Try.func30 (by kernel_rfl) rfl
      have hSy : Says 30 #[.pointer (some ⟨w6.heap.size, 0, none⟩), .pointer (some ⟨w6.heap.size + 1 + 1, 0, none⟩)] (fun x => ys.any fun o => beatB (l.map NdA.f) o x) ys wr := fun V hV x hx =>
        bases2_calls (l.map NdA.f) (w6.heap.size + 1) (w6.heap.size + 1 + 1) w6.heap.size Ac ys cc V (hF.belowW hV) ((hV.cell (p := ⟨w6.heap.size + 1 + 1, 0, none⟩) (World.block_lt_of_cell? wr _ hbF)).trans hbF) ((hV.cell (p := ⟨w6.heap.size, 0, none⟩) (World.block_lt_of_cell? wr _ hcBr)).trans hcBr) ((hrw.belowW hV (Nat.le_refl _)).more hV.size) (by omega) hz.out x hx
      have HDl := Lib.hid (deleteFunc_calls 30 #[.pointer (some ⟨w6.heap.size, 0, none⟩), .pointer (some ⟨w6.heap.size + 1 + 1, 0, none⟩)] _ wr A11 ys c11 w11 hb11 ho11 (by omega) eg2 hSy)
      have hb07r := hb07.next hb
      clear hSy eg2 hys hF hrw hcBr HCl
      go_wp2_with fail
      refine HDl.out.mono ?_
      rintro e w12 ⟨zs, A12, c12, hzs, rfl, ho12, hb12⟩
      have hzq : zs = ys.filter (bestB (l.map NdA.f) ys) := by
        rw [hzs.out]
        exact List.filter_congr fun x _ => (bestB_any _ _ _).symm
      have HS1 : Hid (Strict zs) := by unfold Hid; rw [hzq]; exact HT1.out
      have HS2 : Hid (∀ x, x ∈ zs ↔ BaseP (l.map NdA.f) a b x) := by unfold Hid; rw [hzq]; exact HT2.out
      have hzl : zs.length ≤ 549755813888 := by rw [hzq]; exact Nat.le_trans (List.length_filter_le _ _) (by omega)
      have hsr := hb07r.size
      clear hzq hzs
      go_wp2_with fail
      go_ret
      exact ⟨zs, A12, c12, rfl, HS1, HS2, hzl, World.ownsRow.mono ho12 hsr, hb07r.next hb12⟩
end Go.Proofs.Yteeajmgiamdfdaa
